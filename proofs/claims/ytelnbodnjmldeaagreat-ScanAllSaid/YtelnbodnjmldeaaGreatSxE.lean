/-
  The evaluator's slices, appends, copies, and maps.
-/
import Derived.Test.YtelnbodnjmldeaaGreatSyF
import Derived.Lib.Strings
set_option linter.all false
open Nat renaming le_of_ble_eq_true→za',eq_of_beq_eq_true→zb',le_refl→zc',mul_le_mul_right→zd',sub_mul→ze',pos_of_ne_zero→zf',eq_zero_or_pos→zg'
namespace Go.Sx
section
variable {P:Program} {B:World} {pr:Nat->Prop} {E:Ag} {H:AHeap} {w:World}
def EN (o:Option AV) (d:Nat):Option Nat:=match o with
 |none=>some d
 |some (.int _ (.ofNat n))=>some n
 |_=>none
def YL:Nat->List UInt8->List UInt8
 |0,l=>l
 |_+1,[]=>[]
 |n+1,_::r=>YL n r
theorem jy:∀(n:Nat) (l:List UInt8),YL n l=l.drop n
 |0,l=>rfl
 |n+1,[]=>rfl
 |n+1,a::r=>jy n r
def NS:Nat->List UInt8->List UInt8
 |0,_=>[]
 |_+1,[]=>[]
 |n+1,a::r=>a::NS n r
theorem aA:∀(n:Nat) (l:List UInt8),NS n l=l.take n
 |0,l=>by rfl
 |n+1,[]=>rfl
 |n+1,a::r=>by simp [NS,aA n r]
def GN:List UInt8->Nat
 |[]=>0
 |_::r=>Nat.succ (GN r)
theorem J5:∀l:List UInt8,GN l=l.length
 |[]=>rfl
 |_::r=>by simp [GN,J5 r]
def K7 (E:Ag):Option AV->Option Value->Prop
 |none,v=>v=none
 |some a,v=>∃u,v=some u/\Ac E a u
theorem cV (s:List UInt8):(ByteArray.mk ⟨s⟩).size=s.length:=rfl
def km {o:Option AV} {v:Option Value} (ho:K7 E o v) {d n:Nat} (h:EN o d=some n):(v=none/\n=d)\/∃k,v=some (.int k (n:Int)):=by
 unfold EN at h;split at h
 .simp only [K7]at ho;grind
 .simp only [K7]at ho
  grind [Ac]
 cases h
def PA {lo hi:Option AV} {vlo vhi:Option Value} (hlo:K7 E lo vlo) (hhi:K7 E hi vhi) {b:Bool} {len cap l h:Nat} (h1:EN lo 0=some l) (h2:EN hi len=some h)
  (hlh:l<=h) (hhc:h<=cap):(Instr.sliceBounds b len cap vlo vhi none).run P w=.ok (l,h,cap) w:=by
 have r1:∀(k:IntKind) (code:BoundsCode),(Instr.sliceBound (.int k (l:Int)) h code).run P w=.ok l w:=λk code=>by
  grind [run_sliceBound]
 have r2:∀(k:IntKind) (code:BoundsCode),(Instr.sliceBound (.int k (h:Int)) cap code).run P w=.ok h w:=λk code=>by
  grind [run_sliceBound]
 unfold Instr.sliceBounds;rcases km hlo h1 with ⟨rfl,rfl⟩|⟨k,rfl⟩<;>rcases km hhi h2 with ⟨rfl,rfl⟩|⟨k',rfl⟩<;>
  simp only [Sem.run_bind,Sem.run_pure,Result.andThen_ok,r1,r2]
def DT (P:Program) (H:AHeap) (t:TypeId) (x:AV) (lo hi:Option AV):Option AV:=match EN lo 0 with
 |none=>none
 |some l=>match P.underlying t with
  |some .string=>match x with
   | .str s=>match EN hi (GN s)with
     |some h=>match Nat.ble l h&&Nat.ble h (GN s)with
      |true=>some (.str (NS (Nat.sub h l) (YL l s)))
      |false=>none
     |none=>none
   |_=>none
  |some (.slice e)=>match P.info? e with
   |some ti=>match x with
    | .nsl=>match l,EN hi 0 with
      |0,some 0=>some .nsl
      |_,_=>none
    | .sl id off len sz cap=>match EN hi len with
      |some h=>match Nat.ble l h&&Nat.beq sz ti.size with
       |true=>match cap with
          |some c=>match Nat.ble h c with
           |true=>some (.sl id (Nat.add off (Nat.mul l sz)) (Nat.sub h l) sz (some (Nat.sub c l)))
           |false=>none
          |none=>match Nat.ble h len with
           |true=>some (.sl id (Nat.add off (Nat.mul l sz)) (Nat.sub h l) sz none)
           |false=>none
       |false=>none
      |none=>none
    | .vsl len sz cs=>match EN hi len with
      |some h=>match Nat.ble l h&&(Nat.ble h len&&Nat.beq sz ti.size)with
       |true=>match CJ (Nat.mul (Nat.sub h l) sz) (Bk (Nat.mul l sz) cs)with
          |some cs'=>some (.vsl (Nat.sub h l) sz cs')
          |none=>none
       |false=>none
      |none=>none
    |_=>none
   |none=>none
  |some (.array n e)=>match P.info? e with
   |some ti=>match x with
    | .ptr id off=>match EN hi n with
      |some h=>match Nat.ble l h&&Nat.ble h n with
       |true=>match H.get id with
          |some (.cells cs)=>match Nat.ble (Nat.add off (Nat.mul n ti.size)) cs.length with
           |true=>some (.sl id (Nat.add off (Nat.mul l ti.size)) (Nat.sub h l) ti.size (some (Nat.sub n l)))
           |false=>none
          |_=>none
       |false=>none
      |none=>none
    |_=>none
   |none=>none
  |_=>none
theorem Au {a b:Bool} (h:(a&&b)=true):a=true/\b=true:=by simpa using h
def WQ (hr:As B pr E H w) {t:TypeId} {x:AV} {v:Value} (hc:Ac E x v) {lo hi:Option AV} {vlo vhi:Option Value} (hlo:K7 E lo vlo) (hhi:K7 E hi vhi)
  {r:AV} (h:DT P H t x lo hi=some r):Gives P B pr E w (Instr.sliceAt t v vlo vhi none) (r,H):=by
 unfold DT at h;split at h;cases h;rename_i l hl;split at h
 .rename_i hd;split at h
  .rename_i s;split at h
   .rename_i h' hh;split at h
    .rename_i hb;cases h;obtain ⟨b1,b2⟩:=Au hb;have b1:=za' b1;have b2:=za' b2;rw [J5]at b2 hh;subst hc;have hbr:=PA (P:=P) (w:=w) (b:=false) (len:=s.length) (cap:=s.length) hlo hhi hl hh b1 b2;refine Gives.still hr (v:=.string ((ByteArray.mk ⟨s⟩).extract l h')) ?_ ?_;rw [run_sliceAt_string w t _ _ _ _ hd];simp only [Instr.slice,Sem.run_bind,run_underlying hd,Result.andThen_ok];have e:(ByteArray.mk ⟨s⟩).size=s.length:=rfl;simp_all
     have:=Lib.extract_data (ByteArray.mk ⟨s⟩) l h';rw [jy,aA];have e2:∀y:ByteArray,y=⟨⟨y.data.toList⟩⟩:=λy=>rfl;rw [e2 ((ByteArray.mk ⟨s⟩).extract l h'),this];rfl
    cases h
   cases h
  cases h
 .rename_i e hd;split at h
  .rename_i ti hti;have hel:P.elem t=e:=(by simp [Program.elem,hd]);split at h
   .split at h;rename_i hb;cases h;simp only [Ac]at hc;have hbr:=PA (P:=P) (w:=w) (b:=true) (len:=0) (cap:=0) hlo hhi hl hb (zc' _) (zc' _);refine Gives.still hr (v:=.slice none 0 0) ?_ (by simp [Ac]);simp_all [run_sliceAt_slice,Instr.slice,run_underlying,DK]
    cases h
   .rename_i id off len sz cap;split at h
    .rename_i h' hh;split at h
     .rename_i hb;obtain ⟨b1,b2⟩:=Au hb;have b1:=za' b1;have b2:=zb' b2;obtain ⟨b,o,n,c,off',hφ,hsz,rfl,hoff,hle,hfit,hcap⟩:=hc;have key:h'<=c->Gives P B pr E w (Instr.sliceAt t (.slice (some ⟨b,o+off',none⟩) len c) vlo vhi none) (.sl id (off+l*sz) (h'-l) sz (cap.map (· -l)),H):=by
       intro hhc;have hbr:=PA (P:=P) (w:=w) (b:=true) (len:=len) (cap:=c) hlo hhi hl hh b1 hhc;refine Gives.still hr (v:=.slice (some ⟨b,o+(if c=l then off' else off'+l*sz),none⟩) (h'-l) (c-l)) ?_ ?_
       .rw [run_sliceAt_slice w t _ _ _ _ (by grind)];simp only [Instr.slice,Sem.run_bind,run_underlying hd,Result.andThen_ok,hbr,DK hti,Option.map_some,Addr.add_lit,Sem.run_pure,←b2]
        grind
       .refine ⟨b,o,n,c-l,_,hφ,hsz,rfl,?_,by omega,?_,?_⟩
        .grind
        have e1:(c-l)*sz=c*sz-l*sz:=ze' c l sz;have e2:l*sz<=c*sz:=zd' _ (by omega);omega
        grind
      split at h
      .split at h<;>simp_all
      split at h;rename_i hb3;cases h;exact key (by have:=za' hb3;omega);cases h
     cases h
    cases h
   .rename_i len sz cs;split at h
    .rename_i h' hh;split at h
     .rename_i hb;obtain ⟨b1,b2⟩:=Au hb;obtain ⟨b2,b3⟩:=Au b2;have b1:=za' b1;have b2:=za' b2;have b3:=zb' b3;split at h
      .rename_i cs' hcs';cases h;obtain ⟨b,o,vs,c,rfl,hle,hL,hI⟩:=hc;have hbr:=PA (P:=P) (w:=w) (b:=true) (len:=len) (cap:=c) hlo hhi hl hh b1 (by omega);refine Gives.still hr (v:=.slice (some ⟨b,o+(if c=l then 0 else l*sz),none⟩) (h'-l) (c-l)) ?_ ?_
       .rw [run_sliceAt_slice w t _ _ _ _ (by grind)];simp only [Instr.slice,Sem.run_bind,run_underlying hd,Result.andThen_ok,hbr,DK hti,Option.map_some,Addr.add_lit,Sem.run_pure,←b3]
        grind
       .obtain ⟨t1,t2⟩:=Ju hcs';rw [Dh]at t1;have t1:cs'=(cs.drop (l*sz)).take ((h'-l)*sz):=t1;by_cases he:c=l;refine ⟨b,o,[],c-l,by simp [he],by grind,?_,λi v hv=>by simp at hv⟩;have:h'-l=0:=(by omega);simp_all [Ah]
        .refine ⟨b,o+l*sz,(vs.drop (l*sz)).take ((h'-l)*sz),c-l,by simp [he],by grind,?_,λi v hv=>?_⟩;rw [t1];exact (hL.drop _).take _
         .simp only [List.getElem?_take,List.getElem?_drop]at hv;split at hv
          .have:=hI _ _ hv;grind
          cases hv
      cases h
     cases h
    cases h
   cases h
  cases h
 .rename_i n e hd;split at h
  .rename_i ti hti;split at h
   .rename_i id off;split at h
    .rename_i h' hh;split at h
     .rename_i hb;obtain ⟨b1,b2⟩:=Au hb;have b1:=za' b1;have b2:=za' b2;split at h
      .rename_i cs hk;split at h
       .rename_i hb3;cases h;have b3:off+n*ti.size<=cs.length:=za' hb3;obtain ⟨b,o,hφ,rfl⟩:=hc;obtain ⟨arr,t',g1,g2,g3,g4⟩:=hr.blk hk hφ;have hbr:=PA (P:=P) (w:=w) (b:=false) (len:=n) (cap:=n) hlo hhi hl hh b1 b2;refine Gives.still hr (v:=.slice (some ⟨b,o+(if n=l then off else off+l*ti.size),none⟩) (h'-l) (n-l)) ?_ ?_
        .simp only [Instr.sliceAt,Sem.run_bind,run_underlying hd,Result.andThen_ok,Instr.sureAddr,Sem.run_pure,hbr,DK hti,Addr.add_lit]
         grind
        .refine ⟨b,o,arr.size,n-l,_,hφ,g2,rfl,?_,by grind,?_,λk hk=>by cases hk;rfl⟩
         .grind
         show o+(off+l*ti.size)+(n-l)*ti.size<=arr.size;have e1:(n-l)*ti.size=n*ti.size-l*ti.size:=ze' n l ti.size;have e2:l*ti.size<=n*ti.size:=zd' _ (by omega);omega
       cases h
      cases h
     cases h
    cases h
   cases h
  cases h
 cases h
def OS:List UInt8->List AV
 |[]=>[]
 |b::r=>.int .u8 (.ofNat b.toNat)::OS r
def bt (E:Ag):∀s:List UInt8,Ah E (OS s) (s.map λb=>.int .u8 b.toNat)
 |[]=>by rfl
 |b::r=>Ah.cons (by simp [Ac]) (bt E r)
theorem kG:∀s:List UInt8,(OS s).length=s.length
 |[]=>rfl
 |b::r=>by simp [OS,kG r]
def C4 (x:AV):Option Nat:=match x with
 | .nsl=>some 0
 | .sl _ _ n _ _=>some n
 | .vsl n _ _=>some n
 | .str s=>some (GN s)
 |_=>none
def Cx (H:AHeap) (x:AV) (n size:Nat):Option (List AV):=match x with
 | .nsl=>some []
 | .sl id off _ _ _=>match n with
   |0=>some []
   |n+1=>DB H (.ptr id off) (Nat.mul (Nat.succ n) size)
 | .vsl _ _ cs=>CJ (Nat.mul n size) cs
 | .str s=>match size with
   |1=>some (OS (NS n s))
   |_=>none
 |_=>none
def W1 {x:AV} {v:Value} (hc:Ac E x v) {n:Nat} (h:C4 x=some n):Builtin.lenOf v=Sem.pure n:=by unfold C4 at h;split at h;cases h;subst hc;rfl;cases h;obtain ⟨b,o,m,c,off',_,_,rfl,_⟩:=hc;rfl;cases h;obtain ⟨b,o,vs,c,rfl,_⟩:=hc;rfl;cases h;subst hc;rw [J5];rfl;cases h
def HQ (hr:As B pr E H w) {x:AV} {v:Value} (hc:Ac E x v) {m n size:Nat} (hm:C4 x=some m) (hn:n<=m) {l:List AV} (h:Cx H x n size=some l):
  ∃vs,(Builtin.firstCells size n v).run P w=.ok ⟨vs⟩ w/\Ah E l vs/\(n=0\/l.length=n*size\/x=.nsl):=by
 unfold Cx at h;split at h;cases h;subst hc;exact ⟨[],rfl,by simp [Ah],.inr (.inr rfl)⟩;rename_i id off m' sz cap;split at h;cases h;obtain ⟨b,o,m,c,off',_,_,rfl,_⟩:=hc;exact ⟨[],by simp [Builtin.firstCells,loadCells,loadCellsFrom],by simp [Ah],.inl rfl⟩;cases hm;obtain ⟨b,o,m2,c,off',hφ,hsz,rfl,hoff,hle,_⟩:=hc;obtain rfl:=hoff (by omega);have hp:Ac E (.ptr id off') (.pointer (some ⟨b,o+off',none⟩)):=(by simp only [Ac];grind);obtain ⟨b2,o2,vs,he,hl,hL,hcell⟩:=KQ hr hp h;cases he;refine ⟨vs,?_,hL,.inr (.inl ?_)⟩;have:=OJ (P:=P) hcell;rw [hl]at this;exact this;rw [←hL.length,hl];rfl
 .rename_i m' sz cs;obtain ⟨t1,t2⟩:=Ju h;obtain ⟨b,o,vs,c,rfl,hle,hL,hI⟩:=hc;have hv:(vs.take (n*size)).length=n*size:=by
   have:=hL.length
   grind
  refine ⟨vs.take (n*size),?_,by rw [t1];exact hL.take _,.inr (.inl t2)⟩;have:=OJ (P:=P) (w:=w) (b:=b) (o:=o) (vs:=vs.take (n*size)) λj u hu=>(by simp only [List.getElem?_take]at hu;split at hu;exact hr.imm _ _ _ (hI j u hu);cases hu);rw [hv]at this;exact this
 .rename_i s;split at h
  .cases h;simp only [Ac]at hc;refine ⟨(NS n s).map λb=>.int .u8 b.toNat,?_,bt E _,.inr (.inl ?_)⟩<;>simp_all [Builtin.firstCells,aA,kG,C4,J5]
  cases h
 cases h
def Bs:List AV->Nat
 |[]=>0
 |_::r=>Nat.succ (Bs r)
theorem BW:∀l:List AV,Bs l=l.length
 |[]=>rfl
 |_::r=>by simp [Bs,BW r]
def JX (d:TypeDesc):Bool:=match d with
 | .slice _| .string=>true
 |_=>false
def WE {d:TypeDesc} (h:JX d=true):(∃e,d=.slice e)\/d=.string:=by cases d<;>first|(exact .inl ⟨_,rfl⟩)|(exact .inr rfl)|(simp [JX]at h)
def Ga (H:AHeap) (cs:List AV) (need size:Nat):Option (AV×AHeap):=match H.room with
 |true=>some (.sl H.next 0 need size none,H.push (.cells cs))
 |false=>none
def DN (P:Program) (H:AHeap) (t tx:TypeId) (s x:AV):Option (AV×AHeap):=match P.underlying t with
 |some (.slice e)=>match P.info? e with
  |some i=>match i.zero with
   |some z=>match P.underlying tx with
    |some dx=>match JX dx&&Nat.beq (Bs (Ch z)) i.size with
     |true=>match C4 x with
      |some n=>match Cx H x n i.size with
       |some l=>match Nat.beq (Bs l) (Nat.mul n i.size)with
           |true=>match s with
            | .nsl=>match n with
             |0=>some (.nsl,H)
             |_=>match Nat.ble (Nat.mul n i.bytes) 1073741824&&Nat.ble n 1073741824&&Nat.blt 0 i.bytes with
              |true=>Ga H l n i.size
              |false=>none
            | .sl id off len sz cap=>match Nat.beq sz i.size with
             |false=>none
             |true=>match n with
              |0=>some (s,H)
              |_=>match Nat.ble (Nat.mul (Nat.add len n) i.bytes) 1073741824&&Nat.ble (Nat.add len n) 1073741824&&Nat.blt 0 i.bytes with
               |false=>none
               |true=>match cap with
                  |some c=>match Nat.ble (Nat.add len n) c with
                   |true=>match H.get id with
                    |some (.cells cs)=>match Dc l with
                     |true=>match Eo (Nat.add off (Nat.mul len sz)) l cs with
                      |some cs'=>some (.sl id off (Nat.add len n) sz cap,H.set id (.cells cs'))
                      |none=>none
                     |false=>none
                    |_=>none
                   |false=>match Cx H s len i.size with
                    |some l0=>Ga H (l0++l) (Nat.add len n) i.size
                    |none=>none
                  |none=>match H.get id with
                   |some (.cells cs)=>match Dc l&&Nat.beq (Nat.add off (Nat.mul len sz)) (Bs cs)with
                    |true=>Ga (H.erase id) (Bk off cs++l) (Nat.add len n) i.size
                    |false=>none
                   |_=>none
            |_=>none
           |false=>none
       |none=>none
      |none=>none
     |false=>none
    |none=>none
   |none=>none
  |none=>none
 |_=>none
def UR (t ty tx e:TypeId) (i:TypeInfo) (z:Value) (dx:TypeDesc) (ht:P.underlying t=some (.slice e)) (hi:P.info? e=some i) (hz:i.zero=some z)
  (htx:P.underlying tx=some dx) (hdx:JX dx=true) {base:Option Addr} {len cap n:Nat} {xv:Value} (hlen:Builtin.lenOf xv=Sem.pure n) (hgt:cap<len+n)
  (hb:(len+n)*i.bytes<=1073741824) (hn:len+n<=1073741824) (hby:0<i.bytes) {olds news:List Value}
  (ho:(Builtin.firstCells i.size len (.slice base len cap)).run P w.drew=.ok ⟨olds⟩ w.drew) (hx:(Builtin.firstCells i.size n xv).run P w.drew=.ok ⟨news⟩ w.drew):
  (Builtin.append_ #[t,tx] ty #[.slice base len cap,xv]).run P w=
    .ok (.slice (some ⟨w.heap.size,0,none⟩) (len+n) (grownCap w (len+n) cap e))
     (w.drew.alloc (.cells ((⟨olds++news⟩:Array Value)++Builtin.zeroCells z.cells (grownCap w (len+n) cap e-(len+n))) e)):=by
 have hno:¬(len+n<=cap):=by omega
 have h63:¬(9223372036854775807<((len:Int)+(n:Int))):=by omega
 have h48:¬(281474976710656<Builtin.nextslicecap (len+n) cap*i.bytes):=by have:=growslice_fits (need:=len+n) (old:=cap) (bytes:=i.bytes) hgt (by omega);omega
 have hby':i.bytes≠0:=by omega
 have hq:(Question.appendCap (len+n) cap e).forced=false:=rfl;have e:∀z:Array Value,(⟨olds⟩:Array Value)++(⟨news⟩++z)=(⟨olds++news⟩:Array Value)++z:=λz=>by
  grind
 rcases WE hdx with ⟨e',rfl⟩|rfl<;>
  (simp [Builtin.append_,run_underlying ht,run_underlying htx,sizeOf,typeInfo,hi,hlen,hno,h48,hby',hq,ho,hx,zeroValue,hz,newRow,grownCap];rw [e])
def As.drew (h:As B pr E H w):As B pr E H w.drew:=h.drawn _
theorem Pq (hr:As B pr E H w) {cs:List AV} {need size:Nat} {r:AV×AHeap} (h:Ga H cs need size=some r) {news:List Value} (hL:Ah E cs news) (hl:cs.length=need*size)
  {z:Value} (hz:z.cells.size=size) {s:Sem Value} {e:TypeId} {c:Nat} (hc:need<=c)
  (hs:s.run P w=.ok (.slice (some ⟨w.heap.size,0,none⟩) need c) (w.drew.alloc (.cells ((⟨news⟩:Array Value)++Builtin.zeroCells z.cells (c-need)) e))):Gives P B pr E w s r:=by
 unfold Ga at h;split at h
 .rename_i hroom;cases h;have hr2:=hr.drew;have hnl:=hL.length;obtain ⟨h1,h2⟩:=hr2.new_cells hroom (cs:=cs) (arr:=(⟨news⟩:Array Value)++Builtin.zeroCells z.cells (c-need)) (t:=e) (by simp;omega) λi a ha=>by
   obtain ⟨v,hv,hcv⟩:=hL.at i a ha
   grind
  refine ⟨_,_,_,hs,h1,h2,?_⟩;refine ⟨w.heap.size,0,_,c,0,by simp [Ag.bind,Ag.size],by simp [Ag.size];rfl,rfl,λ_=>rfl,hc,?_,λk hk=>by cases hk⟩;simp only [Array.size_append,List.size_toArray,size_zeroCells,hz];have:c*size=need*size+(c-need)*size:=(by rw [←Nat.add_mul];grind);omega
 cases h
def H8 (hr:As B pr E H w) {t tx ty:TypeId} {s x:AV} {sv xv:Value} (hs:Ac E s sv) (hx:Ac E x xv) {r:AV×AHeap} (h:DN P H t tx s x=some r):
  Gives P B pr E w (Builtin.append_ #[t,tx] ty #[sv,xv]) r:=by
 unfold DN at h;split at h
 case h_2=>cases h
 rename_i e ht;split at h
 case h_2=>cases h
 rename_i i hi;split at h
 case h_2=>cases h
 rename_i z hz;split at h
 case h_2=>cases h
 rename_i dx htx;split at h
 case h_2=>cases h
 rename_i hb;obtain ⟨hdx,hzl⟩:=Au hb;have hzl:=zb' hzl;rw [BW]at hzl;have hzs:z.cells.size=i.size:=by have:=(H4 E z).length;grind
 split at h
 case h_2=>cases h
 rename_i n hn;split at h
 case h_2=>cases h
 rename_i l hl;split at h
 case h_2=>cases h
 rename_i hll;have hll:l.length=n*i.size:=by grind [zb',BW]
 have hlen:=W1 hx hn;obtain ⟨news,hf,hL,_⟩:=HQ (P:=P) hr hx hn (zc' n) hl;obtain ⟨news',hf',hL',_⟩:=HQ (P:=P) hr.drew hx hn (zc' n) hl;have fits:∀(base:Option Addr) (len cap:Nat),len+n<=cap->
   (Builtin.append_ #[t,tx] ty #[.slice base len cap,xv]).run P w=
     (match base with
       |some a=>((storeCells (a.add (len*i.size)) news).run P w).andThen λ_ w'=>.ok (.slice base (len+n) cap) w'
       |none=>.ok (.slice base (len+n) cap) w):=by
  intro base len cap hfit;rcases WE hdx with ⟨e',rfl⟩|rfl<;>cases base<;>
   simp [Builtin.append_,run_underlying ht,run_underlying htx,sizeOf,typeInfo,hi,hlen,hfit,hf]
 split at h
 ·
  subst hs;split at h
  .grind [Gives.still,Ac]
  .rename_i hn0;split at h
   .rename_i hb;obtain ⟨hb,hb3⟩:=Au hb;obtain ⟨hb1,hb2⟩:=Au hb;have hb3:0<i.bytes:=(by simp_all);have hpos:0<n:=zf' hn0;have hg:=UR (P:=P) (w:=w) t ty tx e i z dx ht hi hz htx hdx (base:=none) (len:=0) (cap:=0) hlen (by omega) (by simpa using hb1) (by simpa using hb2) hb3 (olds:=[]) (by rfl) hf'
    grind [Pq,grownCap_ge]
   cases h
 .rename_i id off len sz cap;split at h;cases h;rename_i hsz;have hsz:=zb' hsz;have hs0:=hs;simp only [Ac]at hs;obtain ⟨b,o,m,c,off',hφ,hbs,rfl,hoff,hle,hfit,hcap⟩:=hs;split at h;cases h;refine Gives.still hr (v:=.slice (some ⟨b,o+off',none⟩) len c) ?_ hs0;have:news=[]:=(by have:=hL.length;grind);simp_all [storeCells]
  .rename_i hn0;have hpos:0<n:=zf' hn0;split at h;cases h;rename_i hb;obtain ⟨hb,hb3⟩:=Au hb;obtain ⟨hb1,hb2⟩:=Au hb;have hb1:(len+n)*i.bytes<=1073741824:=za' hb1;have hb2:len+n<=1073741824:=za' hb2;have hb3:0<i.bytes:=(by simp_all);split at h
   .rename_i c';obtain rfl:=hcap c' rfl;split at h
    .rename_i hfitc;have hfitc:len+n<=c:=za' hfitc;split at h
     case h_2=>cases h
     rename_i cs hk;split at h
     case h_2=>cases h
     rename_i hone;split at h
     case h_2=>cases h
     rename_i cs' Db;cases h;obtain rfl:=hoff (by omega);obtain ⟨w',g1,g2⟩:=ZJ (P:=P) hr hk hφ hL hone Db;refine ⟨E,.slice (some ⟨b,o+off',none⟩) (len+n) c,w',?_,Ag.le_refl _,g2,?_⟩;simp_all [Addr.add_lit,Nat.add_assoc]
     .simp only [Ac]
      grind
    .rename_i hfitc;split at h
     case h_2=>cases h
     rename_i l0 hl0;have hgt:c<len+n:=by rcases Nat.lt_or_ge c (len+n)with h'|h'<;>simp_all [Nat.ble_eq_true_of_le]
     obtain ⟨olds,ho,hLo,hlo⟩:=HQ (P:=P) hr.drew hs0 (m:=len) rfl (zc' len) hl0;have hl0l:l0.length=len*i.size:=by
      grind [Cx]
     have hg:=UR (P:=P) (w:=w) t ty tx e i z dx ht hi hz htx hdx hlen hgt hb1 hb2 hb3 ho hf';refine Pq hr h (hLo.append hL') ?_ hzs (c:=grownCap w (len+n) c e) (grownCap_ge _ _ _ _) (e:=e) ?_<;>grind
   .split at h
    case h_2=>cases h
    rename_i cs hk;split at h
    case h_2=>cases h
    rename_i hb4;obtain ⟨hone,hhw⟩:=Au hb4;have hhw:off+len*sz=cs.length:=(by grind [zb',BW]);have hcslen:(Bk off cs++l).length=(len+n)*i.size:=by
     grind [Dh]
    obtain ⟨arr,t',g1,g2,g3,g4⟩:=hr.blk hk hφ;by_cases hfitc:len+n<=c
    ·
     obtain rfl:=hoff (by omega);unfold Ga at h;split at h
     case h_2=>cases h
     rename_i hroom;cases h;have hasz:arr.size=m:=(by grind);have hnl:=hL.length;have hst:=run_storeCells_at P b (o+(off'+len*sz)) t' news 0 arr w g1 (by
      have:(len+n)*sz<=c*sz:=zd' _ hfitc
      grind) (R8 hL hone)
     simp only [Nat.add_zero]at hst;have hsub:As B pr E (H.set id (.cells (cs++l))) (w.setRow b (arr.toList.take (o+(off'+len*sz))++news++arr.toList.drop (o+(off'+len*sz)+news.length)).toArray):=by
      have hbound:o+(off'+len*sz)+news.length<=arr.size:=by
       have:(len+n)*sz<=c*sz:=zd' _ hfitc
       grind
      refine hr.set_cells hk hφ g1 ?_ ?_ ?_;simp;omega
      .grind
      .intro k a ha;have hseg:=Ov arr.toList (o+(off'+len*sz)) news (by omega) (o+k);rw [List.getElem?_toArray,hseg];by_cases hkl:k<cs.length
       .grind
       .rw [List.getElem?_append_right (by omega)]at ha;obtain ⟨v,hv,hcv⟩:=hL.at _ _ ha;have hlt:k-cs.length<news.length:=by
         grind
        rw [Ad (by omega)];exact ⟨v,by rw [show o+k-(o+(off'+len*sz))=k-cs.length by omega];exact hv,hcv⟩
     have hk2:(H.set id (.cells (cs++l))).get id=some (.cells (cs++l)):=AHeap.get_set_same H (AHeap.get_lt hk) _;have hroom2:(H.set id (.cells (cs++l))).room=true:=(by exact hroom);obtain ⟨arr2,t2,q1,q2,q3,q4⟩:=hsub.blk hk2 hφ;have hren:=hsub.renew hroom2 hk2 hφ q1 (o':=o+off') (cs':=Bk off' (cs++l)) (by
      grind [Dh]) λk a ha=>by
       grind [Dh]
     obtain ⟨hle2,hrel2⟩:=hren;have hdrop:Bk off' (cs++l)=Bk off' cs++l:=by
      grind [Dh]
     refine ⟨E.bind H.next b (o+off'),.slice (some ⟨b,o+off',none⟩) (len+n) c,(w.setRow b (arr.toList.take (o+(off'+len*sz))++news++arr.toList.drop (o+(off'+len*sz)+news.length)).toArray),?_,hle2,?_,?_⟩;simp_all [Addr.add_lit,Nat.add_assoc]
     .rw [hdrop]at hrel2;have hn1:(((H.set id (.cells (cs++l))).erase id).push (.cells (Bk off' cs++l))).next<=((H.erase id).push (.cells (Bk off' cs++l))).next:=by simp [AHeap.push,AHeap.erase,AHeap.set]
      have hn2:((H.erase id).push (.cells (Bk off' cs++l))).hi<=(((H.set id (.cells (cs++l))).erase id).push (.cells (Bk off' cs++l))).hi:=(by simp [AHeap.push,AHeap.erase,AHeap.set]);refine hrel2.forget (λid' k' hk'=>?_) hn1 hn2;have hnt:=(As.room hroom).2.1;by_cases he:H.next=id'
      .have e1:((H.erase id).push (.cells (Bk off' cs++l))).get H.next=some (.cells (Bk off' cs++l)):=AHeap.get_push_same (H.erase id) hnt _;have e2:(((H.set id (.cells (cs++l))).erase id).push (.cells (Bk off' cs++l))).get H.next=some (.cells (Bk off' cs++l)):=AHeap.get_push_same ((H.set id (.cells (cs++l))).erase id) hnt _
       grind
      .have e1:((H.erase id).push (.cells (Bk off' cs++l))).get id'=(H.erase id).get id':=AHeap.get_push_ne (H.erase id) hnt he _;have e2:(((H.set id (.cells (cs++l))).erase id).push (.cells (Bk off' cs++l))).get id'=((H.set id (.cells (cs++l))).erase id).get id':=AHeap.get_push_ne ((H.set id (.cells (cs++l))).erase id) hnt he _
       grind [AHeap.get_erase_same,AHeap.get_erase_ne,AHeap.get_set_ne,AHeap.get_lt]
     .refine ⟨b,o+off',m,c,0,by show (if H.next=H.next then some (b,o+off')else E.φ H.next)=_;simp,hbs,by simp,λ_=>rfl,hfitc,?_,λk hk=>by cases hk⟩
      grind
    ·
     have hgt:c<len+n:=(by omega);have hold:∃olds,(Builtin.firstCells i.size len (.slice (some ⟨b,o+off',none⟩) len c)).run P w.drew=.ok ⟨olds⟩ w.drew/\Ah E (Bk off cs) olds:=by
      rcases zg' len with h0|h0;simp_all [Builtin.firstCells,loadCells,loadCellsFrom,Ah]
      .obtain rfl:=hoff (by omega);have hsrc:Cx H (.sl id off' len sz none) len i.size=some (Bk off' cs):=by
        cases len with
        |zero=>omega
        |succ len'=>
         simp only [Cx,DB,hk];have:∀(q:List AV),CJ q.length q=some q:=by
          intro q
          induction q<;>grind [CJ]
         grind
       obtain ⟨olds,ho,hLo,_⟩:=HQ (P:=P) hr.drew hs0 (m:=len) rfl (zc' len) hsrc
       grind
     obtain ⟨olds,ho,hLo⟩:=hold;have hg:=UR (P:=P) (w:=w) t ty tx e i z dx ht hi hz htx hdx hlen hgt hb1 hb2 hb3 ho hf';refine Pq (hr.erase id) h (hLo.append hL') hcslen hzs (c:=grownCap w (len+n) c e) (grownCap_ge _ _ _ _) (e:=e) ?_;omega
 cases h
def XX (P:Program) (H:AHeap) (t tx:TypeId) (s x:AV):Option (AV×AHeap):=match s with
 | .sl id off len sz cap=>match cap with
   |some _=>none
   |none=>match H.get id with
    |some (.fz cs)=>match P.underlying t with
     |some (.slice e)=>match P.info? e with
      |some i=>match i.zero with
       |some z=>match P.underlying tx with
          |some dx=>match JX dx&&Nat.beq (Bs (Ch z)) i.size with
           |true=>match C4 x with
            |some n=>match Cx H x n i.size with
             |some l=>match Nat.beq (Bs l) (Nat.mul n i.size)&&(Nat.beq sz i.size&&(Nat.blt 0 n&&(Nat.ble (Nat.mul (Nat.add len n) i.bytes) 1073741824&&(Nat.ble (Nat.add len n) 1073741824&&(Nat.blt 0 i.bytes&&(Dc l&&(Nat.beq (Nat.add off (Nat.mul len sz)) (Bs cs)&&H.room)))))))with
               |true=>some (.sl H.next 0 (Nat.add len n) i.size none,(H.erase id).push (.fz (Bk off cs++l)))
               |false=>none
             |none=>none
            |none=>none
           |false=>none
          |none=>none
       |none=>none
      |none=>none
     |_=>none
    |_=>none
 |_=>none
def i6 (P:Program) (g o:Nat) (t:TypeId) (fr:Nat×Nat):∀(vs:List Value) (i:Nat) (cur:Array Value) (w:World),w.heap[g]? =some (.cells cur t fr)->fr.2<=o+i->o+i+vs.length<=cur.size->(∀v∈vs,v.oneCell'=true)->
  (storeCells ⟨g,o,none⟩ vs i).run P w=.ok () (w.setRow g (cur.toList.take (o+i)++vs++cur.toList.drop (o+i+vs.length)).toArray)
 |[],i,cur,w,hg,_,_,_=>by simp only [storeCells,Cg,AK,Nat.add_zero,List.take_append_drop,Array.toArray_toList];rw [setRow_self w g cur t fr hg];rfl
 |v::rest,i,cur,w,hg,hf,hl,h1=>by
  have hi:o+i<cur.size:=(by grind);have hadd:(⟨g,o,none⟩:Addr).add i=⟨g,o+i,none⟩:=(by simp [Addr.add]);have hcell:w.cell? ⟨g,o+i,none⟩=some cur[o+i]:=(by simp [World.cell?,hg,hi]);have hfro:w.frozen? ⟨g,o+i,none⟩=false:=by
   grind [World.frozen?]
  have hst:(store ((⟨g,o,none⟩:Addr).add i) v).run P w=.ok () (w.setRow g (cur.setIfInBounds (o+i) v)):=by
   grind [run_store,setCell_eq_setRow]
  have ih:=i6 P g o t fr rest (i+1) (cur.setIfInBounds (o+i) v) (w.setRow g (cur.setIfInBounds (o+i) v)) (setRow_heap w g cur _ t _ hg) (by omega) (by grind) (λx hx=>h1 x (by simp [hx]));simp only [storeCells,Sem.run_bind,hst,Result.andThen_ok,ih,setRow_setRow];have e:=list_seg_step cur.toList (o+i) v rest (by omega);simp_all [Nat.add_assoc]
theorem tA (hr:As B pr E H w) {t tx ty:TypeId} {s x:AV} {sv xv:Value} (hs:Ac E s sv) (hx:Ac E x xv) {r:AV×AHeap} (h:XX P H t tx s x=some r):
  Gives P B pr E w (Builtin.append_ #[t,tx] ty #[sv,xv]) r:=by
 unfold XX at h;split at h
 case h_2=>cases h
 rename_i id off len sz cap;split at h
 case h_1=>cases h
 split at h
 case h_2=>cases h
 rename_i cs hk;split at h
 case h_2=>cases h
 rename_i e ht;split at h
 case h_2=>cases h
 rename_i i hi;split at h
 case h_2=>cases h
 rename_i z hz;split at h
 case h_2=>cases h
 rename_i dx htx;split at h
 case h_2=>cases h
 rename_i hb;obtain ⟨hdx,hzl⟩:=Au hb;have hzl:=zb' hzl;rw [BW]at hzl;have hzs:z.cells.size=i.size:=by have:=(H4 E z).length;grind
 split at h
 case h_2=>cases h
 rename_i n hn;split at h
 case h_2=>cases h
 rename_i l hl;split at h
 case h_2=>cases h
 rename_i hall;cases h;obtain ⟨c1,hall⟩:=Au hall;obtain ⟨c2,hall⟩:=Au hall;obtain ⟨c3,hall⟩:=Au hall;obtain ⟨c4,hall⟩:=Au hall;obtain ⟨c5,hall⟩:=Au hall;obtain ⟨c6,hall⟩:=Au hall;obtain ⟨hone,hall⟩:=Au hall;obtain ⟨c8,hroom⟩:=Au hall;have hll:l.length=n*i.size:=by grind [zb',BW]
 have hsz:=zb' c2;have hpos:0<n:=by simp_all
 have hb1:(len+n)*i.bytes<=1073741824:=za' c4;have hb2:len+n<=1073741824:=za' c5;have hb3:0<i.bytes:=by simp_all
 have hhw:off+len*sz=cs.length:=by grind [zb',BW]
 subst hsz;have hlen:=W1 hx hn;obtain ⟨news,hf,hL,_⟩:=HQ (P:=P) hr hx hn (zc' n) hl;obtain ⟨news',hf',hL',_⟩:=HQ (P:=P) hr.drew hx hn (zc' n) hl;have hs0:=hs;simp only [Ac]at hs;obtain ⟨b,o,m,c,off',hφ,hbs,rfl,hoff,hle,hfit,hcap⟩:=hs;obtain ⟨arr,t',fr,g1,g2,g3,g5,g4⟩:=hr.blk hk hφ;have hasz:arr.size=m:=by grind
 have hcslen:(Bk off cs++l).length=(len+n)*i.size:=by
  grind [Dh]
 have hnl:=hL.length;by_cases hfitc:len+n<=c
 .obtain rfl:=hoff (by omega);have hmul:(len+n)*i.size<=c*i.size:=zd' _ hfitc;rw [Nat.add_mul]at hmul;have hbound:o+(off'+len*i.size)+news.length<=arr.size:=(by omega);have hst:=i6 P b (o+(off'+len*i.size)) t' fr news 0 arr w g1 (by omega) hbound (R8 hL hone);simp only [Nat.add_zero]at hst
  have hmv:=hr.moveF hroom hk hφ g1 g2 (arr':=(arr.toList.take (o+(off'+len*i.size))++news++arr.toList.drop (o+(off'+len*i.size)+news.length)).toArray) (by simp;omega) (o':=o+off') (cs':=Bk off' cs++l) (by
   grind) (by grind) λk a ha=>by
    have hseg:=Ov arr.toList (o+(off'+len*i.size)) news (by omega) (o+off'+k);rw [List.getElem?_toArray,hseg];rw [Dh]at ha;by_cases hkl:k<len*i.size
    .rw [List.getElem?_append_left (by grind),List.getElem?_drop]at ha
     grind
    .rw [List.getElem?_append_right (by grind),MD]at ha;obtain ⟨v,hv,hcv⟩:=hL.at _ _ ha;have hlt:k-(cs.length-off')<news.length:=by
      grind
     rw [Ad (by omega)];exact ⟨v,by rw [show o+off'+k-(o+(off'+len*i.size))=k-(cs.length-off') by omega];exact hv,hcv⟩
  obtain ⟨hle2,hrel2⟩:=hmv;refine ⟨E.bind H.next b (o+off'),.slice (some ⟨b,o+off',none⟩) (len+n) c,_,?_,hle2,hrel2,?_⟩
  .have fits:(Builtin.append_ #[t,tx] ty #[.slice (some ⟨b,o+off',none⟩) len c,xv]).run P w=((storeCells ((⟨b,o+off',none⟩:Addr).add (len*i.size)) news).run P w).andThen λ_ w'=>.ok (.slice (some ⟨b,o+off',none⟩) (len+n) c) w':=by
     rcases WE hdx with ⟨e',rfl⟩|rfl<;>
      simp [Builtin.append_,run_underlying ht,run_underlying htx,sizeOf,typeInfo,hi,hlen,hfitc,hf]
   simp_all [Addr.add_lit,Nat.add_assoc]
  refine ⟨b,o+off',m,c,0,by show (if H.next=H.next then some (b,o+off')else E.φ H.next)=_;simp,hbs,by simp,λ_=>rfl,hfitc,?_,λk hk=>by cases hk⟩;omega
 .have hgt:c<len+n:=(by omega);have hold:∃olds,(Builtin.firstCells i.size len (.slice (some ⟨b,o+off',none⟩) len c)).run P w.drew=.ok ⟨olds⟩ w.drew/\Ah E (Bk off cs) olds:=by
   rcases zg' len with h0|h0;simp_all [Builtin.firstCells,loadCells,loadCellsFrom,Ah]
   .obtain rfl:=hoff (by omega);have hln:(Bk off' cs).length=len*i.size:=(by grind);have hcells:∃vs:List Value,vs.length=len*i.size/\Ah E (Bk off' cs) vs/\∀(j:Nat) (u:Value),vs[j]? =some u->w.drew.cell? ⟨b,o+off'+j,none⟩=some u:=by
     refine ⟨(arr.toList.drop (o+off')).take (len*i.size),by simp;omega,?_,λj u hu=>?_⟩
     .grind [Ah.of_at,Dh]
     .rw [List.getElem?_take]at hu;split at hu
      .have:w.drew.heap[b]? =some (.cells arr t' fr):=g1
       grind [World.cell?]
      cases hu
    obtain ⟨vs,v1,v2,v3⟩:=hcells;refine ⟨vs,?_,v2⟩;have:=OJ (P:=P) (w:=w.drew) (b:=b) (o:=o+off') (vs:=vs) v3;rw [v1]at this;exact this
  obtain ⟨olds,ho,hLo⟩:=hold;have hg:=UR (P:=P) (w:=w) t ty tx e i z dx ht hi hz htx hdx hlen hgt hb1 hb2 hb3 ho hf';have hgrow:Ga (H.erase id) (Bk off cs++l) (len+n) i.size=some (.sl H.next 0 (len+n) i.size none,(H.erase id).push (.cells (Bk off cs++l))):=(by unfold Ga;have:(H.erase id).room=true:=hroom;rw [this];rfl);obtain ⟨E',v',w',q1,q2,q3,q4⟩:=Pq (hr.erase id) hgrow (hLo.append hL') hcslen hzs (c:=grownCap w (len+n) c e) (grownCap_ge _ _ _ _) (e:=e) (by rw [hg]);have hnt:=(As.room hroom).2.1;have hsame:((H.erase id).push (.cells (Bk off cs++l))).get H.next=some (.cells (Bk off cs++l)):=AHeap.get_push_same (H.erase id) hnt _;refine ⟨E',v',w',q1,q2,?_,q4⟩;have hn1:(((H.erase id).push (.cells (Bk off cs++l))).set H.next (.fz (Bk off cs++l))).next<=((H.erase id).push (.fz (Bk off cs++l))).next:=by simp [AHeap.push,AHeap.set]
  have hn2:((H.erase id).push (.fz (Bk off cs++l))).hi<=(((H.erase id).push (.cells (Bk off cs++l))).set H.next (.fz (Bk off cs++l))).hi:=(by simp [AHeap.push,AHeap.set]);refine (q3.toF hsame).forget (λid' k' hk'=>?_) hn1 hn2;by_cases he:H.next=id'
  .have e1:((H.erase id).push (.fz (Bk off cs++l))).get H.next=some (.fz (Bk off cs++l)):=AHeap.get_push_same (H.erase id) hnt _
   grind [AHeap.get_set_same]
  .have e1:((H.erase id).push (.fz (Bk off cs++l))).get id'=(H.erase id).get id':=AHeap.get_push_ne (H.erase id) hnt he _;have e2:((H.erase id).push (.cells (Bk off cs++l))).get id'=(H.erase id).get id':=AHeap.get_push_ne (H.erase id) hnt he _
   grind [AHeap.get_set_ne]
def VB:Nat->List AV->List AV
 |0,_=>[]
 |_+1,[]=>[]
 |n+1,a::r=>a::VB n r
theorem jH:∀(n:Nat) (l:List AV),VB n l=l.take n
 |0,l=>by rfl
 |n+1,[]=>by rfl
 |n+1,a::r=>by simp [VB,jH n r]
def aw (H:AHeap) (s:AV):AHeap:=match s with
 | .sl id off len sz cap=>match cap with
   |some _=>H
   |none=>match H.get id with
    |some (.cells cs)=>match Nat.blt (Nat.add off (Nat.mul len sz)) (Bs cs)with
     |true=>H.set id (.cells (VB (Nat.add off (Nat.mul len sz)) cs))
     |false=>H
    |_=>H
 |_=>H
def As.trim (h:As B pr E H w) {id:Nat} {cs:List AV} (hk:H.get id=some (.cells cs)) (k:Nat):As B pr E (H.set id (.cells (cs.take k))) w where
 own:=by
  obtain ⟨own,g1,g2⟩:=h.own;refine ⟨own,λid' k' hk'=>?_,g2⟩;by_cases e:id=id'
  .subst e;rw [AHeap.get_set_same H (AHeap.get_lt hk)]at hk';cases hk';obtain ⟨_,hvoid⟩|⟨b,o,h1,h2,arr,t,h3,h4,h5,h6⟩:=g1 id _ hk;exact hvoid.elim;refine .inr ⟨b,o,h1,h2,arr,t,h3,h4,?_,λi a ha=>?_⟩<;>grind
  grind [AHeap.get_set_ne,AHeap.get_lt]
 imm:=h.imm
 ib:=h.ib
 fresh:=h.fresh
 resv:=h.resv
 vds:=h.vds
 szs:=h.szs
 prot:=h.prot
 size:=h.size
 os:=h.os
 output:=h.output
def rG (h:As B pr E H w) (s:AV):As B pr E (aw H s) w:=by unfold aw;split;split;exact h;split;rename_i cs hk;split;rw [jH];exact h.trim hk _;exact h;exact h;exact h
def PI (P:Program) (H:AHeap) (t tx:TypeId) (s x:AV):Option (AV×AHeap):=match s with
 | .nsl=>match x with
   | .int _ (.ofNat n)=>match P.underlying t with
     |some (.slice e)=>match P.info? e with
      |some i=>match i.zero with
       |some z=>match P.underlying tx with
         |some (.int _)=>match Nat.beq (Bs (Ch z)) i.size&&Nat.blt 0 i.bytes&&Nat.blt 0 i.size&&Nat.blt 0 n&&Nat.ble (Nat.mul n i.bytes) 1073741824&&Nat.ble n 1073741824 with
          |true=>Ga H (CM (Ch z) n) n i.size
          |false=>none
         |_=>none
       |none=>none
      |none=>none
     |_=>none
   |_=>none
 |_=>none
theorem jX (hr:As B pr E H w) {t tx ty:TypeId} {s x:AV} {sv xv:Value} (hs:Ac E s sv) (hx:Ac E x xv) {r:AV×AHeap} (h:PI P H t tx s x=some r):
  Gives P B pr E w (Builtin.append_ #[t,tx] ty #[sv,xv]) r:=by
 unfold PI at h;split at h
 case h_2=>cases h
 split at h
 case h_2=>cases h
 rename_i k n;split at h
 case h_2=>cases h
 rename_i e ht;split at h
 case h_2=>cases h
 rename_i i hi;split at h
 case h_2=>cases h
 rename_i z hz;split at h
 case h_2=>cases h
 rename_i k' htx;split at h
 case h_2=>cases h
 rename_i hb;obtain ⟨hb,b6⟩:=Au hb;obtain ⟨hb,b5⟩:=Au hb;obtain ⟨hb,b4⟩:=Au hb;obtain ⟨hb,b3⟩:=Au hb;obtain ⟨b1,b2⟩:=Au hb;have b1:=zb' b1;rw [BW]at b1;have b2:0<i.bytes:=by simp_all
 have b3:0<i.size:=by simp_all
 have b4:0<n:=by simp_all
 have b5:n*i.bytes<=1073741824:=za' b5;have b6:n<=1073741824:=za' b6;simp only [Ac]at hs hx;subst hs hx;have hzs:z.cells.size=i.size:=by have:=(H4 E z).length;grind
 have hL:Ah E (CM (Ch z) n) (Builtin.zeroCells z.cells n).toList:=by
  refine Ah.of_at ?_ λq x u hx hu=>?_
  .grind [JJ,size_zeroCells]
  .have hq:q<n*i.size:=by
     grind [JJ]
   rw [UE _ _ _ (by grind),b1]at hx;obtain ⟨u',hu',hcu⟩:=(H4 E z).at _ _ hx
   grind [Builtin.zeroCells]
 refine Pq hr h hL (by rw [JJ,b1]) hzs (c:=grownCap w n 0 e) (grownCap_ge _ _ _ _) (e:=e) ?_;have h0:¬n=0:=by omega
 have hw:IntKind.i64.wrap (n:Int)=(n:Int):=by
  grind [IntKind.wrap,IntKind.bits]
 have h1:¬((n:Int)<0):=by omega
 have h2:¬(281474976710656<(n:Int)*(i.bytes:Int)):=by omega
 have h48:¬(281474976710656<Builtin.nextslicecap n 0*i.bytes):=by have:=growslice_fits (need:=n) (old:=0) (bytes:=i.bytes) (by omega) (by omega);omega
 have h63:¬(9223372036854775807<(n:Int)):=by omega
 have hby':i.bytes≠0:=by omega
 have hsz:i.size≠0:=by omega
 have hq:(Question.appendCap n 0 e).forced=false:=rfl;simp [Builtin.append_,run_underlying ht,run_underlying htx,sizeOf,typeInfo,hi,asInt,asIntOf,hw,h1,h2,h0,h63,h48,hby',hsz,hq,zeroValue,hz,newRow,grownCap,Builtin.firstCells]
 grind [Nat.mul_ne_zero]
def U7 (P:Program) (H:AHeap) (t tx:TypeId) (s x:AV):Option (AV×AHeap):=match DN P (aw H s) t tx s x with
 |some r=>some r
 |none=>match XX P H t tx s x with
  |some r=>some r
  |none=>PI P H t tx s x
theorem xw (hr:As B pr E H w) {t tx ty:TypeId} {s x:AV} {sv xv:Value} (hs:Ac E s sv) (hx:Ac E x xv) {r:AV×AHeap} (h:U7 P H t tx s x=some r):
  Gives P B pr E w (Builtin.append_ #[t,tx] ty #[sv,xv]) r:=by
 unfold U7 at h;split at h;rename_i r' hr';cases h;exact H8 (rG hr s) hs hx hr'
 grind [tA,jX]
end
def I3 (k:IntKind) (n:Int):Int:=match n with
 | .ofNat m=>match k with
   | .i64=>match Nat.blt m 9223372036854775808 with
     |true=>n
     |false=>k.wrap n
   |_=>match Nat.blt m 128 with
    |true=>n
    |false=>k.wrap n
 | .negSucc m=>match k with
   | .i64=>match Nat.blt m 9223372036854775808 with
     |true=>n
     |false=>k.wrap n
   |_=>k.wrap n
theorem Ls (k:IntKind) (n:Int):I3 k n=k.wrap n:=by
 unfold I3;split
 .rename_i m;split
  .split
   .rename_i h;have h:m<9223372036854775808:=(by simp_all);rw [IntKind.wrap_i64]
    grind
   rfl
  .split
   .rename_i hk _ h;have h:m<128:=(by simp_all);cases k<;>simp [IntKind.wrap,IntKind.bits,IntKind.signed]<;>omega
   rfl
 grind [Nat.blt_eq,IntKind.wrap_i64]
def GH (k:IntKind) (n:Int):AV:=match n with
 | .ofNat m=>match m with
   |0=>.int k (.ofNat 0)
   | .succ j=>.int k (.ofNat (.succ j))
 | .negSucc m=>match m with
   |0=>.int k (.negSucc 0)
   | .succ j=>.int k (.negSucc (.succ j))
theorem H5 (k:IntKind) (n:Int):GH k n=.int k n:=by unfold GH;split<;>split<;>rfl
def J2 (a b:Int):Bool:=match a,b with
 | .ofNat m,.ofNat n=>Nat.blt m n
 | .negSucc m,.negSucc n=>Nat.blt n m
 | .negSucc _,.ofNat _=>true
 | .ofNat _,.negSucc _=>false
theorem P4 (a b:Int):J2 a b=decide (a<b):=by
 cases a with
 |ofNat m=>cases b with
  |ofNat n=>
   show Nat.blt m n=_;rw [Bool.eq_iff_iff,Nat.blt_eq,decide_eq_true_iff]
   grind
  |negSucc n=>
   show false=_
   grind
 |negSucc m=>cases b with
  |ofNat n=>
   show true=_
   grind
  |negSucc n=>show Nat.blt n m=_;rw [Bool.eq_iff_iff,Nat.blt_eq,decide_eq_true_iff];omega
def Ja (a b:Int):Bool:=match a,b with
 | .ofNat m,.ofNat n=>Nat.beq m n
 | .negSucc m,.negSucc n=>Nat.beq m n
 |_,_=>false
theorem Lf (a b:Int):Ja a b=(a==b):=by
 cases a with
 |ofNat m=>cases b with
  |ofNat n=>
   show Nat.beq m n=_;rw [Bool.eq_iff_iff,Nat.beq_eq,beq_iff_eq]
   grind
  |negSucc n=>
   show false=_
   grind
 |negSucc m=>cases b with
  |ofNat n=>
   show false=_
   grind
  |negSucc n=>show Nat.beq m n=_;rw [Bool.eq_iff_iff,Nat.beq_eq,beq_iff_eq];omega
def Gb (op:BinOp) (k:IntKind) (a b:Int):Option AV:=match op with
 | .add=>some (GH k (I3 k (Int.add a b)))
 | .sub=>some (GH k (I3 k (Int.sub a b)))
 | .mul=>some (GH k (I3 k (Int.mul a b)))
 | .eql=>some (.bool (Ja a b))
 | .neq=>some (.bool (not (Ja a b)))
 | .lss=>some (.bool (J2 a b))
 | .leq=>some (.bool (not (J2 b a)))
 | .gtr=>some (.bool (J2 b a))
 | .geq=>some (.bool (not (J2 a b)))
 |_=>none
theorem p8_ (a b:Int):(!decide (a<b))=decide (b<=a):=by
 grind
def pE {P:Program} {op:BinOp} {k:IntKind} {a b:Int} {r:AV} (h:Gb op k a b=some r) (t:TypeId) (w:World) (E:Ag):
  ∃v,(binOp op t (.int k a) (.int k b)).run P w=.ok v w/\Ac E r v:=by
 cases op<;>simp only [Gb,A6,reduceCtorEq]at h<;>subst h<;>
  simp only [H5,Ls,Lf,P4,p8_,Ac]<;>refine ⟨_,?_,rfl⟩<;>simp [binOp,Op.intArith,Op.intCmp,bne]<;>rfl
def G8:List UInt8->List UInt8->Bool
 |[],[]=>true
 |a::x,b::y=>match Nat.beq a.toNat b.toNat with
  |true=>G8 x y
  |false=>false
 |_,_=>false
theorem JZ:∀a b:List UInt8,G8 a b=(a==b)
 |[],[]=>rfl
 |[],_::_=>rfl
 |_::_,[]=>rfl
 |a::x,b::y=>by
  simp only [G8];have e:Nat.beq a.toNat b.toNat=(a==b):=by
   rw [Bool.eq_iff_iff,Nat.beq_eq,beq_iff_eq]
   grind [UInt8.toNat_inj]
  split;rename_i h;rw [JZ x y];rw [e]at h;show _=((a==b)&&(x==y));rw [h];simp;rename_i h;rw [e]at h;show _=((a==b)&&(x==y));rw [h];simp
def bx (d:TypeDesc) (x y:AV):Option Bool:=match d with
 | .bool=>match x,y with
   | .bool a,.bool b=>some (a==b)
   |_,_=>none
 | .int _=>match x,y with
   | .int k a,.int k' b=>match decide (k=k')with
     |true=>some (Ja a b)
     |false=>none
   |_,_=>none
 | .float _=>match x,y with
   | .flt k a,.flt k' b=>match decide (k=k')with
     |true=>some (Op.floatEq k a b)
     |false=>none
   | .nan k,.flt k' _=>match decide (k=k')with
     |true=>some false
     |false=>none
   | .flt k _,.nan k'=>match decide (k=k')with
     |true=>some false
     |false=>none
   | .nan k,.nan k'=>match decide (k=k')with
     |true=>some false
     |false=>none
   |_,_=>none
 | .string=>match x,y with
   | .str a,.str b=>some (G8 a b)
   |_,_=>none
 | .pointer _=>match x,y with
   | .nptr,.nptr=>some true
   | .nptr,.ptr _ _=>some false
   | .ptr _ _,.nptr=>some false
   | .nptr,.vptr _=>some false
   | .vptr _,.nptr=>some false
   |_,_=>none
 | .slice _=>match x,y with
   | .nsl,.nsl=>some true
   | .nsl,.sl _ _ _ _ _=>some false
   | .sl _ _ _ _ _,.nsl=>some false
   | .nsl,.vsl _ _ _=>some false
   | .vsl _ _ _,.nsl=>some false
   |_,_=>none
 | .map _ _=>match x,y with
   | .nmap,.nmap=>some true
   | .nmap,.map _=>some false
   | .map _,.nmap=>some false
   |_,_=>none
 | .interface _=>match x,y with
   | .nif,.nif=>some true
   | .nif,.iface _ _=>some false
   | .iface _ _,.nif=>some false
   |_,_=>none
 |_=>none
theorem ai {k:FloatKind} {a:Nat} (h:(k.format.read a).isNaN=true) (b:Nat):k.format.order a b=none:=by
 unfold Ieee.Format.order;revert h;generalize k.format.read a=x;generalize k.format.read b=y;intro h;cases x<;>simp [Ieee.Datum.isNaN]at h
 cases y<;>rfl
theorem bM {k:FloatKind} {b:Nat} (h:(k.format.read b).isNaN=true) (a:Nat):k.format.order a b=none:=by
 unfold Ieee.Format.order;revert h;generalize k.format.read a=x;generalize k.format.read b=y;intro h;cases y<;>simp [Ieee.Datum.isNaN]at h
 cases x<;>rfl
def Pm (P:Program) (eq:TypeId->AV->AV->Option Bool):List Field->List AV->List AV->Option Bool
 |[],_,_=>some true
 |f::fs,xs,ys=>match f.name== "_" with
  |true=>none
  |false=>match RJ P f.type xs f.offset with
   |none=>none
   |some a=>match RJ P f.type ys f.offset with
    |none=>none
    |some b=>match eq f.type a b with
     |some true=>Pm P eq fs xs ys
     |some false=>some false
     |none=>none
def RA (P:Program):Nat->TypeId->AV->AV->Option Bool
 |0,_,_,_=>none
 |d+1,t,x,y=>match P.underlying t with
  |none=>none
  |some (.struct fs)=>match x,y with
   | .agg xs,.agg ys=>match P.stoodInHeld t with
     |false=>Pm P (RA P d) fs.toList xs ys
     |true=>none
   |_,_=>none
  |some dsc=>bx dsc x y
section
variable {P:Program} {B:World} {pr:Nat->Prop} {E:Ag} {H:AHeap} {w:World}
set_option maxHeartbeats 2000000 in
theorem wT {d:TypeDesc} {t:TypeId} (hd:P.underlying t=some d) {x y:AV} {u v:Value} (hx:Ac E x u) (hy:Ac E y v) {b:Bool} (h:bx d x y=some b) (n:Nat):
  (Op.equalIn (n+1) t u v).run P w=.ok b w:=by
 unfold bx at h;split at h<;>(first|(cases h;done)|skip)
 .split at h<;>(first|(cases h;done)|skip)
  cases h;simp only [Ac]at hx hy;subst hx hy;simp [Op.equalIn,run_underlying hd]
 .split at h<;>(first|(cases h;done)|skip)
  split at h<;>(first|(cases h;done)|skip)
  rename_i hk;cases h;simp only [Ac]at hx hy;subst hx hy;have hk:=AU hk;subst hk;simp [Op.equalIn,run_underlying hd,Lf]
 .split at h<;>(first|(cases h;done)|skip)
  split at h<;>(first|(cases h;done)|skip)
  rename_i hk;cases h;simp only [Ac]at hx hy;subst hx hy;have hk:=AU hk;subst hk;simp [Op.equalIn,run_underlying hd];all_goals
   split at h<;>(first|(cases h;done)|skip)
   rename_i hk;cases h;simp only [Ac]at hx hy;have hk:=AU hk;subst hk
  obtain ⟨b,rfl,hn⟩:=hx;subst hy;simp [Op.equalIn,run_underlying hd,Op.floatEq,ai hn];obtain ⟨b,rfl,hn⟩:=hy;subst hx;simp [Op.equalIn,run_underlying hd,Op.floatEq,bM hn];obtain ⟨b,rfl,hn⟩:=hx;obtain ⟨c,rfl,_⟩:=hy;simp [Op.equalIn,run_underlying hd,Op.floatEq,ai hn]
 .split at h<;>(first|(cases h;done)|skip)
  rename_i a b;cases h;simp only [Ac]at hx hy;subst hx hy;simp [Op.equalIn,run_underlying hd,JZ]
  grind [beq_toListBytes,ByteArray.toList_eq]
 .split at h<;>(first|(cases h;done)|skip)<;>cases h<;>simp only [Ac]at hx hy
  subst hx hy;simp [Op.equalIn,run_underlying hd];obtain ⟨_,_,_,rfl⟩:=hy;subst hx;simp [Op.equalIn,run_underlying hd];obtain ⟨_,_,_,rfl⟩:=hx;subst hy;simp [Op.equalIn,run_underlying hd];obtain ⟨_,_,_,rfl,_⟩:=hy;subst hx;simp [Op.equalIn,run_underlying hd];obtain ⟨_,_,_,rfl,_⟩:=hx;subst hy;simp [Op.equalIn,run_underlying hd]
 .split at h<;>(first|(cases h;done)|skip)<;>cases h<;>simp only [Ac]at hx hy
  subst hx hy;simp [Op.equalIn,run_underlying hd];obtain ⟨_,_,_,_,_,_,_,rfl,_⟩:=hy;subst hx;simp [Op.equalIn,run_underlying hd];obtain ⟨_,_,_,_,_,_,_,rfl,_⟩:=hx;subst hy;simp [Op.equalIn,run_underlying hd];obtain ⟨_,_,_,_,rfl,_⟩:=hy;subst hx;simp [Op.equalIn,run_underlying hd];obtain ⟨_,_,_,_,rfl,_⟩:=hx;subst hy;simp [Op.equalIn,run_underlying hd]
 .split at h<;>(first|(cases h;done)|skip)<;>cases h<;>simp only [Ac]at hx hy
  subst hx hy;simp [Op.equalIn,run_underlying hd];obtain ⟨_,_,rfl⟩:=hy;subst hx;simp [Op.equalIn,run_underlying hd];obtain ⟨_,_,rfl⟩:=hx;subst hy;simp [Op.equalIn,run_underlying hd]
 .split at h<;>(first|(cases h;done)|skip)<;>cases h<;>simp only [Ac]at hx hy
  subst hx hy;simp [Op.equalIn,run_underlying hd];obtain ⟨_,rfl,_⟩:=hy;subst hx;simp [Op.equalIn,run_underlying hd];obtain ⟨_,rfl,_⟩:=hx;subst hy;simp [Op.equalIn,run_underlying hd]
theorem kX {eq:TypeId->AV->AV->Option Bool} {d:Nat}
  (heq:∀(t:TypeId) (x y:AV) (u v:Value) (b:Bool),Ac E x u->Ac E y v->eq t x y=some b->(Op.equalIn d t u v).run P w=.ok b w) {xs ys:List AV} {us vs:List Value} (hx:Ah E xs us) (hy:Ah E ys vs):
  ∀{fs:List Field} {b:Bool},Pm P eq fs xs ys=some b->(Op.eqFields d ⟨us⟩ ⟨vs⟩ fs).run P w=.ok b w
 |[],b,h=>by simp_all [Pm,Op.eqFields]
 |f::fs,b,h=>by
  simp only [Pm]at h;split at h;cases h;rename_i hn;have hn:f.name≠ "_" :=(by grind);split at h;cases h;rename_i a ha;split at h;cases h;rename_i c hc;obtain ⟨u,hu,hcu⟩:=YB (P:=P) (w:=w) hx ha;obtain ⟨v,hv,hcv⟩:=YB (P:=P) (w:=w) hy hc;split at h;rename_i he;have:=heq _ _ _ _ _ _ hcu hcv he;simp [Op.eqFields,hn,hu,hv,this,kX heq hx hy h];rename_i he;have:=heq _ _ _ _ _ _ hcu hcv he;simp_all [Op.eqFields]
  cases h
def gJ:∀{d:Nat} {t:TypeId} {x y:AV} {u v:Value} {b:Bool},Ac E x u->Ac E y v->RA P d t x y=some b->∀n,d<=n->(Op.equalIn n t u v).run P w=.ok b w
 |0,t,x,y,u,v,b,_,_,h,n,hn=>by simp [RA]at h
 |d+1,t,x,y,u,v,b,hx,hy,h,n,hn=>by
  obtain ⟨m,rfl⟩:∃m,n=m+1:=⟨n-1,by omega⟩;simp only [RA]at h;split at h;cases h;rename_i fs hd;split at h;split at h;rename_i hs;simp only [Ac]at hx hy;obtain ⟨us,rfl,hxl⟩:=hx;obtain ⟨vs,rfl,hyl⟩:=hy;have hf:P.fieldsOf t=fs:=(by simp [Program.fieldsOf,hd]);rw [run_equalIn_struct w m t ⟨us⟩ ⟨vs⟩ (by rw [hf];exact hd) hs,hf];exact kX (λt' x' y' u' v' b' h1 h2 h3=>gJ h1 h2 h3 m (by omega)) hxl hyl h;cases h;cases h
  grind [wT]
def FW:Operand->Bool
 | .const _=>true
 |_=>false
def PU (P:Program) (t:TypeId) (cx cy:Bool) (x y:AV):Bool:=match x,y with
 | .nif,.nif=>cx||cy
 | .agg _,.agg _=>not (P.eqGuardType P.depth t)
 | .opq,_=>false
 |_,.opq=>false
 | .sym _,_=>false
 |_,.sym _=>false
 | .slx _ _ _,_=>false
 |_,.slx _ _ _=>false
 | .ptx _ _ _ _,_=>false
 |_,.ptx _ _ _ _=>false
 |_,_=>true
set_option maxHeartbeats 2000000 in
def pT {t:TypeId} {ox oy:Operand} {x y:AV} {u v:Value} (hx:Ac E x u) (hy:Ac E y v) (h:PU P t (FW ox) (FW oy) x y=true) (op:BinOp):
  (eqGuard op t ox oy u v).run P w=.ok () w:=by
 by_cases hop:op=.eql\/op=.neq
 case neg=>cases op<;>first|rfl|exact absurd (.inl rfl) hop|exact absurd (.inr rfl) hop
 have e0:eqGuard op t ox oy u v=eqGuard .eql t ox oy u v:=by rcases hop with rfl|rfl<;>rfl
 rw [e0];clear e0 hop;unfold eqGuard;simp only [Bool.not_true,Bool.false_eq_true,if_false];by_cases h1:x=.nif/\y=.nif
 .obtain ⟨rfl,rfl⟩:=h1;subst hx hy;simp only [PU]at h;have hh:FW ox=true\/FW oy=true:=(by simpa using h);cases ox<;>cases oy<;>simp only [FW,Bool.false_eq_true,or_self]at hh<;>simp
 .by_cases h2:(∃xs,x=.agg xs)/\(∃ys,y=.agg ys);obtain ⟨⟨xs,rfl⟩,⟨ys,rfl⟩⟩:=h2;obtain ⟨us,rfl,_⟩:=hx;obtain ⟨vs,rfl,_⟩:=hy;simp_all [PU]
  .have hu:(match u,v with
     | .nilIface,.nilIface=>False
     | .agg _,.agg _=>False
     |_,_=>True):=by
     cases x<;>cases y<;>simp only [PU,Bool.false_eq_true]at h<;>
      first
       |(exact absurd ⟨rfl,rfl⟩ h1)
       |(exact absurd ⟨⟨_,rfl⟩,⟨_,rfl⟩⟩ h2)
       |(simp only [Ac]at hx hy
         (try subst hx)
         (try subst hy)
         (try (obtain ⟨_,_,_,rfl⟩:=hx))
         (try (obtain ⟨_,_,_,rfl,_⟩:=hx))
         (try (obtain ⟨_,_,_,_,_,_,_,rfl,_⟩:=hx))
         (try (obtain ⟨_,_,_,_,rfl,_⟩:=hx))
         (try (obtain ⟨_,_,rfl⟩:=hx))
         (try (obtain ⟨_,rfl,_⟩:=hx))
         (try (obtain ⟨_,_,_,rfl⟩:=hy))
         (try (obtain ⟨_,_,_,rfl,_⟩:=hy))
         (try (obtain ⟨_,_,_,_,_,_,_,rfl,_⟩:=hy))
         (try (obtain ⟨_,_,_,_,rfl,_⟩:=hy))
         (try (obtain ⟨_,_,rfl⟩:=hy))
         (try (obtain ⟨_,rfl,_⟩:=hy))
         trivial)
   split<;>simp_all
def R2 (P:Program) (neg:Bool) (t:TypeId) (cx cy:Bool) (x y:AV):Option AV:=match PU P t cx cy x y with
 |false=>none
 |true=>match RA P 8 t x y with
  |some b=>some (.bool (xor neg b))
  |none=>none
end
section
variable {P:Program} {B:World} {pr:Nat->Prop} {E:Ag} {H:AHeap} {w:World}
def Kh (d:TypeDesc) (x y:AV):Option Bool:=match d with
 | .bool=>match x,y with
   | .bool a,.bool b=>some (a==b)
   |_,_=>none
 | .int _=>match x,y with
   | .int k a,.int k' b=>match decide (k=k')with
     |true=>some (Ja a b)
     |false=>none
   |_,_=>none
 | .string=>match x,y with
   | .str a,.str b=>some (G8 a b)
   |_,_=>none
 |_=>none
def Il (d:TypeDesc) (x:AV):Bool:=match d,x with
 | .bool,.bool _=>true
 | .int _,.int _ _=>true
 | .string,.str _=>true
 |_,_=>false
theorem mP (a b:List UInt8):((⟨⟨a⟩⟩:ByteArray)==⟨⟨b⟩⟩)=(a==b):=
 by simp [beq_toListBytes,trans,ByteArray.toList_eq]
def io {d:TypeDesc} {x y:AV} {u v:Value} (hx:Ac E x u) (hy:Ac E y v) {b:Bool} (h:Kh d x y=some b):Instr.sameNow d u v=some b:=by
 unfold Kh at h;split at h<;>(first|(cases h;done)|skip)
 .split at h<;>(first|(cases h;done)|skip)
  cases h;subst hx hy;rfl
 .split at h<;>(first|(cases h;done)|skip)
  split at h<;>(first|(cases h;done)|skip)
  simp_all [Ac,Instr.sameNow,Lf]
 grind [Ac,Instr.sameNow,JZ,mP]
def yu {d:TypeDesc} {x y:AV} {u v:Value} (hx:Ac E x u) (hy:Ac E y v) (h:Kh d x y=some true):u=v:=by
 unfold Kh at h;split at h<;>(first|(cases h;done)|skip)
 .grind [Ac]
 .split at h<;>(first|(cases h;done)|skip)
  split at h<;>(first|(cases h;done)|skip)
  simp_all [Ac,Lf]
 grind [Ac,JZ]
def ip {d:TypeDesc} {t:TypeId} (hd:P.underlying t=some d) {x:AV} {u:Value} (hx:Ac E x u) (h:Il d x=true) (e:Bool) (n:Nat):
  (Instr.checkKey e (n+1) t u).run P w=.ok () w:=by
 cases d<;>cases x<;>simp only [Il,Bool.false_eq_true]at h<;>(simp_all [Instr.checkKey,run_underlying])
def Ff (d:TypeDesc) (k:AV):List (AV×AV×Nat)->Nat->Option (Option (Nat×AV))
 |[],_=>some none
 |(q,v,_)::r,i=>match Kh d k q with
  |some true=>some (some (i,v))
  |some false=>Ff d k r (Nat.succ i)
  |none=>none
def P2 {d:TypeDesc} {k:AV} {kv:Value} (hk:Ac E k kv):∀{es:List (AV×AV×Nat)} {ms:List MapEntry} (hc:ConE E es ms) {i:Nat} {r:Option (Nat×AV)},Ff d k es i=some r->
  match r with
  |none=>Instr.findNow d kv ms i=some none
  |some (j,a)=>i<=j/\∃e q n,ms[j-i]? =some e/\Instr.findNow d kv ms i=some (some (j,e.val))/\Ac E a e.val/\es[j-i]? =some (q,a,n)/\e.key=kv/\Ac E q e.key
 |[],ms,hc,i,r,h=>by cases h;subst hc;rfl
 |(q,v,n)::es,ms,hc,i,r,h=>by
  obtain ⟨e,ms',rfl,h1,h2,h3,h4⟩:=hc;simp only [Ff]at h;split at h;rename_i hq;cases h;have hs:=io hk h1 hq;have he:=yu hk h1 hq;simp_all [Instr.findNow]
  .rename_i hq;have hs:=io hk h1 hq;have ih:=P2 hk h4 h;cases r with
   |none=>
    grind [Instr.findNow]
   |some p=>
    grind [Instr.findNow]
  cases h
def OU (P:Program) (kt:TypeId) (k q:AV):Option Bool:=match FD k with
 |some kv=>match FD q with
  |some qv=>Cs P (Op.equal kt kv qv)
  |none=>none
 |none=>none
def QU (k q:AV):Bool:=match FD k with
 |some kv=>match FD q with
  |some qv=>Instr.sameBits 10000 qv kv
  |none=>false
 |none=>false
def isSome {α:Type} (x:Option α):Bool:=match x with
 |some _=>true
 |none=>false
def Jn (P:Program) (kt:TypeId) (k:AV):Bool:=match FD k with
 |some kv=>isSome (Cs P (Instr.checkKey true 10000 kt kv))&&isSome (Cs P (Instr.checkKey false 10000 kt kv))
 |none=>false
def H9 (d:TypeDesc):Bool:=match d with
 | .struct _=>true
 | .array _ _=>true
 |_=>false
def Fz (P:Program) (kt:TypeId) (k:AV):List (AV×AV×Nat)->Nat->Option (Option (Nat×AV×AV))
 |[],_=>some none
 |(q,v,_)::r,i=>match OU P kt k q with
  |some true=>some (some (i,q,v))
  |some false=>Fz P kt k r (Nat.succ i)
  |none=>none
def jm {kt:TypeId} {k q:AV} {kv qv:Value} (hk:Ac E k kv) (hq:Ac E q qv) {b:Bool} (h:OU P kt k q=some b):(Op.equal kt kv qv).run P w=.ok b w:=by
 grind [OU,P3,KN]
def tS {k q:AV} {kv qv:Value} (hk:Ac E k kv) (hq:Ac E q qv) (h:QU k q=true):Instr.sameBits 10000 qv kv=true:=by
 grind [QU,P3]
theorem yq {s:Sem Unit} (h:isSome (Cs P s)=true):s.run P w=.ok () w:=by
 unfold isSome at h
 grind [KN]
def nP {kt:TypeId} {k:AV} {kv:Value} (hk:Ac E k kv) (h:Jn P kt k=true) (b:Bool):(Instr.checkKey b 10000 kt kv).run P w=.ok () w:=by
 unfold Jn at h;split at h
 .rename_i kv' h1;rw [P3 h1 hk];cases b<;>grind [yq]
 cases h
theorem TC {kt:TypeId} {d:TypeDesc} (hd:P.underlying kt=some d) (hn:H9 d=true) (kv:Value) (ms:List MapEntry):(Instr.findKey kt kv ms).run P w=(Instr.findAsking kt kv ms).run P w:=by
 have e:Instr.findNow d kv ms 0=match ms with|[]=>some none|_::_=>none:=by
  cases ms with
  |nil=>rfl
  |cons e ms=>cases d<;>simp only [H9,Bool.false_eq_true]at hn<;>simp [Instr.findNow,Instr.sameNow]
 simp only [Instr.findKey,Sem.run_bind,run_underlying hd,Result.andThen_ok,e];cases ms<;>rfl
def Rj {kt:TypeId} {k:AV} {kv:Value} (hk:Ac E k kv):∀{es:List (AV×AV×Nat)} {ms:List MapEntry} (hc:ConE E es ms) {i:Nat} {r:Option (Nat×AV×AV)},Fz P kt k es i=some r->
  match r with
  |none=>(Instr.findAsking kt kv ms i).run P w=.ok none w
  |some (j,q,a)=>i<=j/\∃e n,ms[j-i]? =some e/\(Instr.findAsking kt kv ms i).run P w=.ok (some (j,e.val)) w/\Ac E a e.val/\es[j-i]? =some (q,a,n)/\Ac E q e.key
 |[],ms,hc,i,r,h=>by cases h;subst hc;rfl
 |(q,v,n)::es,ms,hc,i,r,h=>by
  obtain ⟨e,ms',rfl,h1,h2,h3,h4⟩:=hc;simp only [Fz]at h;split at h;rename_i hq;cases h;have hs:=jm (w:=w) hk h1 hq;simp_all [Instr.findAsking]
  .rename_i hq;have hs:=jm (w:=w) hk h1 hq;have ih:=Rj hk h4 h;cases r with
   |none=>simp_all [Instr.findAsking]
   |some p=>
    obtain ⟨j,q',a⟩:=p;obtain ⟨g1,e',n',g2,g3,g4,g5,g6⟩:=ih;refine ⟨by omega,e',n',?_,?_,g4,?_,g6⟩
    .grind
    simp_all [Instr.findAsking]
    grind
  cases h
def Ve (P:Program) (H:AHeap) (t:TypeId):Option (AV×AHeap):=match H.room with
 |true=>some (.map H.next,H.push (.map [] 0))
 |false=>none
theorem jK_ (hr:As B pr E H w) {t:TypeId} {r:AV×AHeap} (h:Ve P H t=some r):Gives P B pr E w (Instr.makeMap t none) r:=by unfold Ve at h;split at h;rename_i hroom;cases h;obtain ⟨h1,h2⟩:=hr.new_map hroom;refine ⟨_,.map (some w.heap.size),w.alloc (.map #[] 0),by rfl,h1,h2,?_⟩;exact ⟨w.heap.size,by simp [Ag.bind],rfl⟩;cases h
def Mb (ok:Bool) (a:AV) (b:Bool):AV:=match ok with
 |true=>.tup [a,.bool b]
 |false=>a
def OP {a:AV} {v:Value} (h:Ac E a v) (ok b:Bool):Ac E (Mb ok a b) (if ok then .tuple #[v,.bool b]else v):=by cases ok;exact h;exact ⟨[v,.bool b],rfl,Ah.cons h (Ah.cons (by simp [Ac]) (Ah.nil E))⟩
def Mw (P:Program) (H:AHeap) (kt et:TypeId) (d:TypeDesc) (m k:AV) (ok:Bool):Option AV:=match H9 d&&Jn P kt k with
 |false=>none
 |true=>match P.info? et with
  |none=>none
  |some i=>match i.zero with
   |none=>none
   |some z=>match m with
    | .map id=>match H.get id with
      |some (.map es _)=>match Fz P kt k es 0 with
        |some (some (_,_,a))=>some (Mb ok a true)
        |some none=>some (Mb ok (Gd z) false)
        |none=>none
      |_=>none
    |_=>none
def vK (hr:As B pr E H w) {t kt et:TypeId} {d:TypeDesc} (hd:P.underlying t=some (.map kt et)) (hkd:P.underlying kt=some d) {m k:AV} {mv kv:Value} (hm:Ac E m mv) (hk:Ac E k kv) {ok:Bool} {r:AV}
  (h:Mw P H kt et d m k ok=some r):∃v,(Instr.lookup t mv kv ok).run P w=.ok v w/\Ac E r v:=by
 unfold Mw at h;split at h;cases h;rename_i hb;obtain ⟨hn,hck0⟩:H9 d=true/\Jn P kt k=true:=by grind
 split at h;cases h;rename_i i hi;split at h;cases h;rename_i z hz;have hck:∀b,(Instr.checkKey b 10000 kt kv).run P w=.ok () w:=λb=>nP hk hck0 b;have hzv:(zeroValue et).run P w=.ok z w:=by simp [zeroValue,typeInfo,hi,hz]
 split at h;obtain ⟨b,hφ,rfl⟩:=hm;split at h;rename_i es clock BU;obtain ⟨_,es',hg,hce⟩:=hr.blk BU hφ;have hgo:(getObj b).run P w=.ok (.map es' clock) w:=(by simp [getObj,Sem.run,hg]);split at h;rename_i j q a hf;cases h;have:=Rj (w:=w) hk hce hf;obtain ⟨_,e,n,_,hfn,hca,_⟩:=this;refine ⟨_,?_,OP hca ok true⟩;simp [Instr.lookup,run_underlying hd,hgo,hck,TC hkd hn,hfn];rename_i hf;cases h;have:=Rj (w:=w) hk hce hf;refine ⟨_,?_,OP (J1 E z) ok false⟩;simp [Instr.lookup,run_underlying hd,hgo,hck,TC hkd hn,this,hzv];cases h;cases h;cases h
def E6 (P:Program) (H:AHeap) (t:TypeId) (m k:AV) (ok:Bool):Option AV:=match P.underlying t with
 |some (.map kt et)=>match P.underlying kt with
  |some d=>match Il d k with
   |false=>Mw P H kt et d m k ok
   |true=>match P.info? et with
    |none=>none
    |some i=>match i.zero with
     |none=>none
     |some z=>match m with
      | .nmap=>some (Mb ok (Gd z) false)
      | .map id=>match H.get id with
        |some (.map es _)=>match Ff d k es 0 with
          |some (some (_,a))=>some (Mb ok a true)
          |some none=>some (Mb ok (Gd z) false)
          |none=>none
        |_=>none
      |_=>none
  |none=>none
 |_=>none
def kO (hr:As B pr E H w) {t:TypeId} {m k:AV} {mv kv:Value} (hm:Ac E m mv) (hk:Ac E k kv) {ok:Bool} {r:AV} (h:E6 P H t m k ok=some r):
  ∃v,(Instr.lookup t mv kv ok).run P w=.ok v w/\Ac E r v:=by
 unfold E6 at h;split at h
 case h_2=>cases h
 rename_i kt et hd;split at h
 case h_2=>cases h
 rename_i d hkd;split at h;exact vK hr hd hkd hm hk h;rename_i hko;split at h;cases h;rename_i i hi;split at h;cases h;rename_i z hz;have hck:∀b,(Instr.checkKey b 10000 kt kv).run P w=.ok () w:=λb=>ip hkd hk hko b 9999;have hzv:(zeroValue et).run P w=.ok z w:=by simp [zeroValue,typeInfo,hi,hz]
 cases m<;>simp only [reduceCtorEq]at h
 case nmap=>
  cases h;refine ⟨_,?_,OP (J1 E z) ok false⟩;simp_all [Ac,Instr.lookup,run_underlying,Instr.findKey,Instr.findNow]
 case map id=>
  obtain ⟨b,hφ,rfl⟩:=hm;split at h;rename_i es clock BU;obtain ⟨_,es',hg,hce⟩:=hr.blk BU hφ;have hgo:(getObj b).run P w=.ok (.map es' clock) w:=(by simp [getObj,Sem.run,hg]);split at h;rename_i j a hf;cases h;have:=P2 hk hce hf;obtain ⟨_,e,q,n,_,hfn,hca,_⟩:=this;refine ⟨_,?_,OP hca ok true⟩;simp [Instr.lookup,run_underlying hd,hgo,hck,Instr.findKey,run_underlying hkd,hfn];rename_i hf;cases h;have:=P2 hk hce hf;refine ⟨_,?_,OP (J1 E z) ok false⟩;simp [Instr.lookup,run_underlying hd,hgo,hck,Instr.findKey,run_underlying hkd,this,hzv];cases h;cases h
theorem fb (hr:As B pr E H w) {t:TypeId} {m k:AV} {mv kv:Value} (hm:Ac E m mv) (hk:Ac E k kv) {ok:Bool} {r:AV} (h:E6 P H t m k ok=some r):
  Gives P B pr E w (Instr.lookup t mv kv ok) (r,H):=by
 obtain ⟨v,h1,h2⟩:=kO hr hm hk h;exact Gives.still hr h1 h2
def MN:List (AV×AV×Nat)->Nat->AV->List (AV×AV×Nat)
 |[],_,_=>[]
 |(k,_,n)::r,0,v=>(k,v,n)::r
 |e::r,i+1,v=>e::MN r i v
def HV:List (AV×AV×Nat)->(AV×AV×Nat)->List (AV×AV×Nat)
 |[],e=>[e]
 |a::r,e=>a::HV r e
def WI {q v:AV} {n:Nat} {e:MapEntry} (h1:Ac E q e.key) (h2:Ac E v e.val) (h3:e.born=n):∀{es:List (AV×AV×Nat)} {ms:List MapEntry},ConE E es ms->ConE E (HV es (q,v,n)) (ms++[e])
 |[],ms,h=>by simp only [ConE]at h;simp only [HV,ConE];grind
 |(k,u,m)::r,ms,h=>by obtain ⟨e',ms',rfl,g1,g2,g3,g4⟩:=h;exact ⟨e',ms'++[e],rfl,g1,g2,g3,WI h1 h2 h3 g4⟩
theorem eQ {v:AV} {vv kv:Value} (hv:Ac E v vv):∀{es:List (AV×AV×Nat)} {ms:List MapEntry} {i:Nat} {q a:AV} {n:Nat},ConE E es ms->es[i]? =some (q,a,n)->Ac E q kv->
  ConE E (MN es i v) (ms.modify i λe=>{ e with key:=kv,val:=vv })
 |[],ms,i,q,a,n,h,hi,_=>by simp at hi
 |(k,u,m)::r,ms,0,q,a,n,h,hi,hq=>by
  grind [MN,ConE]
 |(k,u,m)::r,ms,i+1,q,a,n,h,hi,hq=>by obtain ⟨e',ms',rfl,g1,g2,g3,g4⟩:=h;simp only [MN,ConE];exact ⟨e',_,by simp,g1,g2,g3,eQ hv g4 (by simpa using hi) hq⟩
def Kz:List (AV×AV×Nat)->Nat->AV->AV->List (AV×AV×Nat)
 |[],_,_,_=>[]
 |(_,_,n)::r,0,k,v=>(k,v,n)::r
 |e::r,i+1,k,v=>e::Kz r i k v
theorem lJ {k v:AV} {kv vv:Value} (hk:Ac E k kv) (hv:Ac E v vv):∀{es:List (AV×AV×Nat)} {ms:List MapEntry} {i:Nat},ConE E es ms->ConE E (Kz es i k v) (ms.modify i λe=>{ e with key:=kv,val:=vv })
 |[],ms,i,hc=>by
  grind [ConE,Kz]
 |(q,a,n)::es,ms,0,hc=>by
  simp only [ConE]at hc;simp only [Kz,ConE,List.modify_zero_cons]
  grind
 |(q,a,n)::es,ms,i+1,hc=>by obtain ⟨e,ms',rfl,h1,h2,h3,h4⟩:=hc;exact ⟨_,_,rfl,h1,h2,h3,lJ hk hv h4⟩
def Rf (P:Program) (H:AHeap) (kt:TypeId) (d:TypeDesc) (m k v:AV):Option (AV×AHeap):=match H9 d&&Jn P kt k with
 |false=>none
 |true=>match m with
  | .map id=>match H.get id with
    |some (.map es clock)=>match Fz P kt k es 0 with
     |some (some (i,q,_))=>match QU k q with
      |true=>some (.tup [],H.set id (.map (Kz es i k v) clock))
      |false=>none
     |some none=>some (.tup [],H.set id (.map (HV es (k,v,clock)) (Nat.succ clock)))
     |none=>none
    |_=>none
  |_=>none
theorem rB (hr:As B pr E H w) {t kt et:TypeId} {d:TypeDesc} (hd:P.underlying t=some (.map kt et)) (hkd:P.underlying kt=some d) {m k v:AV} {mv kv vv:Value} (hm:Ac E m mv) (hk:Ac E k kv) (hv:Ac E v vv)
  {r:AV×AHeap} (h:Rf P H kt d m k v=some r):∃w',(Instr.mapUpdate t mv kv vv).run P w=.ok () w'/\As B pr E r.2 w'/\r.1=.tup []:=by
 unfold Rf at h;split at h;cases h;rename_i hb;obtain ⟨hn,hck0⟩:H9 d=true/\Jn P kt k=true:=by grind
 have hck:(Instr.checkKey false 10000 kt kv).run P w=.ok () w:=nP hk hck0 false;split at h
 case h_2=>cases h
 obtain ⟨b,hφ,rfl⟩:=hm;split at h
 case h_2=>cases h
 rename_i es clock BU;obtain ⟨_,es',hg,hce⟩:=hr.blk BU hφ;have hgo:(getObj b).run P w=.ok (.map es' clock) w:=by simp [getObj,Sem.run,hg]
 have hso:∀o:Obj,(setObj b o).run P w=.ok () { w with heap:=w.heap.setIfInBounds b o }:=λo=>by simp [setObj,Sem.run,hg]
 split at h
 .rename_i i q a hf;split at h
  .rename_i hbits;cases h;have:=Rj (w:=w) hk hce hf;obtain ⟨_,e,n,hmi,hfn,hca,hqi,hq⟩:=this;have hes:es'[i]? =some e:=(by grind);refine ⟨{ w with heap:=w.heap.setIfInBounds b (.map (es'.modify i λe=>{ e with key:=kv,val:=vv }) clock) },?_,?_,rfl⟩;have hsb:=tS hk hq hbits;simp_all [Instr.mapUpdate,run_underlying,TC,Instr.keyThatStays]
   .refine hr.set_map BU hφ ?_
    grind [lJ]
  cases h
 .rename_i hf;cases h;have:=Rj (w:=w) hk hce hf;refine ⟨{ w with heap:=w.heap.setIfInBounds b (.map (es'.push { key:=kv,val:=vv,born:=clock }) (clock+1)) },?_,?_,rfl⟩;simp_all [Instr.mapUpdate,run_underlying,TC]
  refine hr.set_map BU hφ ?_;rw [Array.toList_push];exact WI (e:={ key:=kv,val:=vv,born:=clock }) hk hv rfl hce
 cases h
def IJ (P:Program) (H:AHeap) (t:TypeId) (m k v:AV):Option (AV×AHeap):=match P.underlying t with
 |some (.map kt _)=>match P.underlying kt with
  |some d=>match Il d k with
   |false=>Rf P H kt d m k v
   |true=>match m with
    | .map id=>match H.get id with
      |some (.map es clock)=>match Ff d k es 0 with
       |some (some (i,_))=>some (.tup [],H.set id (.map (MN es i v) clock))
       |some none=>some (.tup [],H.set id (.map (HV es (k,v,clock)) (Nat.succ clock)))
       |none=>none
      |_=>none
    |_=>none
  |none=>none
 |_=>none
def vI {d:TypeDesc} {k:AV} {kv:Value} (hk:Ac E k kv) (h:Il d k=true):Instr.sameBits 10000 kv kv=true:=by cases d<;>cases k<;>simp only [Il,Bool.false_eq_true]at h<;>(grind [Ac,Instr.sameBits,mP])
def UV (hr:As B pr E H w) {t:TypeId} {m k v:AV} {mv kv vv:Value} (hm:Ac E m mv) (hk:Ac E k kv) (hv:Ac E v vv) {r:AV×AHeap} (h:IJ P H t m k v=some r):
  ∃w',(Instr.mapUpdate t mv kv vv).run P w=.ok () w'/\As B pr E r.2 w'/\r.1=.tup []:=by
 unfold IJ at h;split at h
 case h_2=>cases h
 rename_i kt et hd;split at h
 case h_2=>cases h
 rename_i d hkd;split at h
 .grind [rB]
 rename_i hko;have hck:(Instr.checkKey false 10000 kt kv).run P w=.ok () w:=ip hkd hk hko false 9999;split at h
 case h_2=>cases h
 obtain ⟨b,hφ,rfl⟩:=hm;split at h
 case h_2=>cases h
 rename_i es clock BU;obtain ⟨_,es',hg,hce⟩:=hr.blk BU hφ;have hgo:(getObj b).run P w=.ok (.map es' clock) w:=by simp [getObj,Sem.run,hg]
 have hso:∀o:Obj,(setObj b o).run P w=.ok () { w with heap:=w.heap.setIfInBounds b o }:=λo=>by simp [setObj,Sem.run,hg]
 split at h
 .rename_i i a hf;cases h;have:=P2 hk hce hf;obtain ⟨_,e,q,n,hmi,hfn,hca,hqi,hke,hq⟩:=this;have hes:es'[i]? =some e:=(by grind);refine ⟨{ w with heap:=w.heap.setIfInBounds b (.map (es'.modify i λe=>{ e with key:=kv,val:=vv }) clock) },?_,?_,rfl⟩;have hsb:=vI hk hko;simp_all [Instr.mapUpdate,run_underlying,Instr.findKey,Instr.keyThatStays]
  .refine hr.set_map BU hφ ?_;rw [Array.toList_modify]
   grind [eQ]
 .rename_i hf;cases h;have:=P2 hk hce hf;refine ⟨{ w with heap:=w.heap.setIfInBounds b (.map (es'.push { key:=kv,val:=vv,born:=clock }) (clock+1)) },?_,?_,rfl⟩;simp_all [Instr.mapUpdate,run_underlying,Instr.findKey]
  refine hr.set_map BU hφ ?_;rw [Array.toList_push];exact WI (e:={ key:=kv,val:=vv,born:=clock }) hk hv rfl hce
 cases h
def Kf:List (AV×AV×Nat)->Nat
 |[]=>0
 |_::r=>Nat.succ (Kf r)
theorem Y8:∀{es:List (AV×AV×Nat)} {ms:List MapEntry},ConE E es ms->Kf es=ms.length
 |[],ms,h=>by grind [ConE,Kf]
 |(k,u,m)::r,ms,h=>by obtain ⟨e',ms',rfl,g1,g2,g3,g4⟩:=h;simp [Kf,Y8 g4]
def Ey (P:Program) (H:AHeap) (t:TypeId) (x:AV):Option AV:=match P.underlying t with
 |some .string=>match x with
  | .str s=>some (GH .i64 (.ofNat (GN s)))
  |_=>none
 |some (.slice _)=>match x with
  | .nsl=>some (.int .i64 (.ofNat 0))
  | .sl _ _ n _ _=>some (.int .i64 (.ofNat n))
  | .vsl n _ _=>some (.int .i64 (.ofNat n))
  |_=>none
 |some (.array n _)=>some (.int .i64 (.ofNat n))
 |some (.map _ _)=>match x with
  | .nmap=>some (.int .i64 (.ofNat 0))
  | .map id=>match H.get id with
    |some (.map es _)=>some (GH .i64 (.ofNat (Kf es)))
    |_=>none
  |_=>none
 |_=>none
theorem uf (hr:As B pr E H w) {t ty:TypeId} {x:AV} {v:Value} (hx:Ac E x v) {r:AV} (h:Ey P H t x=some r):Gives P B pr E w (Builtin.len_ #[t] ty #[v]) (r,H):=by unfold Ey at h;split at h;rename_i hd;split at h;rename_i s;cases h;subst hx;rw [H5];refine Gives.still hr (v:=.int .i64 (Int.ofNat (GN s))) ?_ (by simp [Ac]);simp [Builtin.len_,run_underlying hd,goInt,J5];rfl;cases h;rename_i hd;split at h;cases h;subst hx;exact Gives.still hr (v:=.int .i64 (Int.ofNat 0)) (by simp [Builtin.len_,run_underlying hd,goInt]) (by simp [Ac]);rename_i n sz c;cases h;obtain ⟨_,_,_,_,_,_,_,rfl,_⟩:=hx;exact Gives.still hr (v:=.int .i64 (Int.ofNat n)) (by simp [Builtin.len_,run_underlying hd,goInt]) (by simp [Ac]);rename_i n sz c;cases h;obtain ⟨_,_,_,_,rfl,_⟩:=hx;exact Gives.still hr (v:=.int .i64 (Int.ofNat n)) (by simp [Builtin.len_,run_underlying hd,goInt]) (by simp [Ac]);cases h;rename_i n _ hd;cases h;exact Gives.still hr (v:=.int .i64 (Int.ofNat n)) (by simp_all [Builtin.len_,run_underlying,goInt]) (by simp [Ac]);rename_i hd;split at h;cases h;subst hx;exact Gives.still hr (v:=.int .i64 (Int.ofNat 0)) (by simp [Builtin.len_,run_underlying hd,goInt]) (by simp [Ac]);obtain ⟨b,hφ,rfl⟩:=hx;split at h;rename_i es clock BU;cases h;obtain ⟨_,es',hg,hce⟩:=hr.blk BU hφ;have hgo:(getObj b).run P w=.ok (.map es' clock) w:=(by simp [getObj,Sem.run,hg]);rw [H5];refine Gives.still hr (v:=.int .i64 (Int.ofNat (Kf es))) ?_ (by simp [Ac]);simp [Builtin.len_,run_underlying hd,goInt,hgo,Y8 hce];cases h;cases h;cases h
def ap (a b:Nat):Nat:=match Nat.ble a b with
 |true=>a
 |false=>b
theorem oF (a b:Nat):ap a b=min a b:=by
 grind [ap,za',Nat.ble_eq_true_of_le]
def zb {x:AV} {v:Value} (hx:Ac E x v) {n:Nat} (h:C4 x=some n) (size:Nat):(Builtin.firstCells size 0 v).run P w=.ok #[] w:=by
 cases x<;>simp only [C4,reduceCtorEq]at h<;>simp only [Ac]at hx
 case nsl=>subst hx;rfl
 case sl=>obtain ⟨b,o,m,c,off',_,_,rfl,_⟩:=hx;simp [Builtin.firstCells,loadCells,loadCellsFrom]
 case vsl=>obtain ⟨b,o,vs,c,rfl,_⟩:=hx;simp [Builtin.firstCells,loadCells,loadCellsFrom]
 simp_all [Builtin.firstCells]
def TF (P:Program) (H:AHeap) (t:TypeId) (d s:AV):Option (AV×AHeap):=match P.underlying t with
 |some (.slice e)=>match P.info? e with
  |some i=>match C4 d with
   |some dn=>match C4 s with
    |some sn=>match ap sn dn with
     |0=>match d with
      | .sl _ _ _ _ _=>some (.int .i64 (.ofNat 0),H)
      | .nsl=>some (.int .i64 (.ofNat 0),H)
      |_=>none
     | .succ n'=>match Cx H s (.succ n') i.size with
       |some l=>match d with
        | .sl id off _ _ _=>match H.get id with
           |some (.cells cs)=>match Dc l with
            |true=>match Eo off l cs with
             |some cs'=>some (.int .i64 (.ofNat (.succ n')),H.set id (.cells cs'))
             |none=>none
            |false=>none
           |_=>none
        |_=>none
       |none=>none
    |none=>none
   |none=>none
  |none=>none
 |_=>none
theorem ub (hr:As B pr E H w) {t tx ty:TypeId} {d s:AV} {dv sv:Value} (hd:Ac E d dv) (hs:Ac E s sv) {r:AV×AHeap} (h:TF P H t d s=some r):
  Gives P B pr E w (Builtin.copy_ #[t,tx] ty #[dv,sv]) r:=by
 unfold TF at h;split at h
 case h_2=>cases h
 rename_i e ht;split at h
 case h_2=>cases h
 rename_i i hi;split at h
 case h_2=>cases h
 rename_i dn hdn;split at h
 case h_2=>cases h
 rename_i sn hsn;have hsl:=W1 hs hsn;split at h
 .rename_i hmin;rw [oF]at hmin;have hf:=zb (P:=P) (w:=w) hs hsn i.size;cases d<;>simp only [reduceCtorEq]at h
  cases h;simp only [Ac]at hd;cases hdn;refine Gives.still hr (v:=goInt (0:Nat)) ?_ (by rfl);simp_all [Builtin.copy_,run_underlying,DK]
  cases h;cases hdn;obtain ⟨b,o,m,c,off',hφ,hbs,rfl,hoff,hle,hfit,hcap⟩:=hd;refine Gives.still hr (v:=goInt (0:Nat)) ?_ (by rfl);simp [Builtin.copy_,run_underlying ht,DK hi,hsl,hmin,hf,storeCells]
 .rename_i n' hmin;rw [oF]at hmin;have hmin':Nat.min sn dn=n'+1:=hmin;have hmin:min sn dn=n'+1:=hmin;split at h
  case h_2=>cases h
  rename_i l hl;obtain ⟨vs,hf,hL,hlen⟩:=HQ (P:=P) hr hs hsn (by omega) hl;cases d<;>simp only [reduceCtorEq]at h
  rename_i id off dn' sz cap;simp only [C4]at hdn;cases hdn;simp only [Ac]at hd;obtain ⟨b,o,m,c,off',hφ,hbs,rfl,hoff,hle,hfit,hcap⟩:=hd;split at h
  case h_2=>cases h
  rename_i cs hk;split at h
  case h_2=>cases h
  rename_i hone;split at h
  case h_2=>cases h
  rename_i cs' Db;cases h;obtain rfl:=hoff (by omega);obtain ⟨w',g1,g2⟩:=ZJ (P:=P) hr hk hφ hL hone Db;refine ⟨E,goInt ((n'+1:Nat):Int),w',?_,Ag.le_refl _,g2,by rfl⟩;simp_all [Builtin.copy_,run_underlying,DK]
def Ot (P:Program) (H:AHeap) (t:TypeId) (l c:AV):Option (AV×AHeap):=match P.underlying t with
 |some (.slice e)=>match P.info? e with
  |some i=>match i.zero with
   |some z=>match l,c with
    | .int _ (.ofNat ln),.int _ (.ofNat cn)=>match Nat.ble ln cn&&Nat.ble (Nat.mul i.bytes cn) 16777216&&Nat.ble cn 16777216&&Nat.beq (Bs (Ch z)) i.size with
      |true=>match H.room with
       |true=>some (.sl H.next 0 ln i.size (some cn),H.push (.cells (CM (Ch z) cn)))
       |false=>none
      |false=>none
    |_,_=>none
   |none=>none
  |none=>none
 |_=>none
theorem eE (hr:As B pr E H w) {t:TypeId} {l c:AV} {lv cv:Value} (hl:Ac E l lv) (hc:Ac E c cv) {r:AV×AHeap} (h:Ot P H t l c=some r):
  Gives P B pr E w (Instr.makeSlice t lv cv) r:=by
 unfold Ot at h;split at h
 case h_2=>cases h
 rename_i e hd;split at h
 case h_2=>cases h
 rename_i i hi;split at h
 case h_2=>cases h
 rename_i z hz;split at h
 case h_2=>cases h
 rename_i k ln k' cn;split at h
 case h_2=>cases h
 rename_i hb;obtain ⟨hb,b4⟩:=Au hb;obtain ⟨hb,b3⟩:=Au hb;obtain ⟨b1,b2⟩:=Au hb;have b1:=za' b1;have b2:i.bytes*cn<=16777216:=za' b2;have b3:=za' b3;have b4:=zb' b4;rw [BW]at b4;split at h
 case h_2=>cases h
 rename_i hroom;cases h;subst hl hc;have hzs:z.cells.size=i.size:=by have:=(H4 E z).length;grind
 have hrun:=run_make (P:=P) w t e i z hd hi hz k k' (Int.ofNat ln) (Int.ofNat cn) (by simp) (by simp;omega) (by
  grind) (by grind)
 have hbase:Ah E (CM (Ch z) cn) (madeCells z.cells (cn*i.size)).toList:=by
  refine Ah.of_at ?_ λq x u hx hu=>?_
  .grind [JJ,size_madeCells]
  .have hq:q<cn*i.size:=by
     grind [JJ]
   rw [UE _ _ _ (by grind),b4]at hx;obtain ⟨u',hu',hcu⟩:=(H4 E z).at _ _ hx
   grind [madeCells]
 have hne:Hz H (CM (Ch z) cn)=some (.ptr H.next 0,H.push (.cells (CM (Ch z) cn))):=by simp [Hz,hroom]
 obtain ⟨E',g1,g2,g3,g4,g5⟩:=bJ hr e hbase hne;refine ⟨E',_,_,hrun,g1,g2,?_⟩;refine ⟨w.heap.size,0,_,cn,0,g5,g3,rfl,λ_=>rfl,b1,?_,λq hq=>by cases hq;rfl⟩;simp [size_madeCells]
def RY:List AV->Option (List UInt8)
 |[]=>some []
 | .int .u8 (.ofNat n)::r=>match RY r with
   |some l=>some (UInt8.ofNat n::l)
   |none=>none
 |_=>none
def Xd:∀{as:List AV} {vs:List Value} {l:List UInt8},RY as=some l->Ah E as vs->∃ns:List Int,vs=ns.map (Value.int .u8)/\ns.map (λn=>UInt8.ofNat n.toNat)=l
 |[],vs,l,h,hc=>by simp only [RY]at h;simp only [Ah]at hc;simp_all
 |a::as,vs,l,h,hc=>by
  obtain ⟨v,r,rfl,h2,h3⟩:=hc;unfold RY at h;split at h
  .grind
  rename_i n r' heq;cases heq;split at h;rename_i l' hl';cases h;obtain ⟨ns,h4,h5⟩:=Xd hl' h3;subst h2;exact ⟨(n:Int)::ns,by simp [h4],by simp [h5]⟩;cases h;cases h
def NK (P:Program) (H:AHeap) (src dst:TypeId) (x:AV):Option AV:=match P.underlying src,P.underlying dst with
 |some (.slice e),some .string=>match P.underlying e with
  |some (.int .u8)=>match x with
   | .nsl=>some (.str [])
   | .str _=>none
   |x=>match C4 x with
    |some n=>match Cx H x n 1 with
     |some l=>match Nat.beq (Bs l) n with
      |true=>match RY l with
       |some s=>some (.str s)
       |none=>none
      |false=>none
     |none=>none
    |none=>none
  |_=>none
 |_,_=>none
theorem fP (l:List UInt8):∀(s:ByteArray),l.foldl (λr b=>r.push b) s=⟨⟨s.data.toList++l⟩⟩:=by
 induction l<;>simp_all
theorem vq (hr:As B pr E H w) {src dst:TypeId} {x:AV} {v:Value} (hx:Ac E x v) {r:AV} (h:NK P H src dst x=some r):Gives P B pr E w (convert src dst v) (r,H):=by
 unfold NK at h;split at h
 case h_2=>cases h
 rename_i e hs hd;split at h
 case h_2=>cases h
 rename_i he;split at h;cases h;simp only [Ac]at hx;refine Gives.still hr (v:=.string .empty) ?_ (by rfl);simp_all [convert,run_underlying,Conv.bytesToString]
 cases h
 .rename_i hne hns;split at h
  case h_2=>cases h
  rename_i n hn;split at h
  case h_2=>cases h
  rename_i l hl;split at h
  case h_2=>cases h
  split at h
  case h_2=>cases h
  rename_i s hbs;cases h;obtain ⟨vs,hf,hL,_⟩:=HQ (P:=P) hr hx hn (zc' _) hl;obtain ⟨ns,rfl,hns⟩:=Xd hbs hL;have key:∀(a:Addr) (m c:Nat),v=.slice (some a) m c->m=n->Gives P B pr E w (convert src dst v) (.str s,H):=by
   intro a m c hv hm;subst hv hm;have hlc:(loadCells a m).run P w=.ok (ns.map (Value.int .u8)).toArray w:=by
    have hf':(loadCells a (m*1)).run P w=.ok (ns.map (Value.int .u8)).toArray w:=hf
    grind
   refine Gives.still hr (v:=.string ⟨⟨s⟩⟩) ?_ (by simp [Ac]);rw [run_convert_bytes_string w src dst e (some a) m c hs he hd,run_bytesToString w a m c ns hlc];have e1:ns.foldl (λr n=>r.push (UInt8.ofNat n.toNat)) ByteArray.empty=(ns.map (λn=>UInt8.ofNat n.toNat)).foldl (λr b=>r.push b) ByteArray.empty:=(by rw [List.foldl_map]);simp_all [fP]
  cases x<;>simp only [C4,reduceCtorEq]at hn
  case nsl=>grind
  case sl=>
   simp only [Ac]at hx
   grind
  case vsl=>
   simp only [Ac]at hx
   grind
  grind
end
end Go.Sx
