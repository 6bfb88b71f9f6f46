/-
  How the relation of an abstract heap to a world turns when a block is laid, written, moved or forgotten.
-/
import Derived.Test.YtmgenobllanmjaaGreatDoorSyF
set_option linter.unusedVariables false
set_option linter.unusedSimpArgs false
namespace Go.Sx
theorem getElem?_lt_of_some {α:Type} {xs:Array α} {i:Nat} {x:α} (h:xs[i]? =some x):i<xs.size:=by
 grind
theorem aO_ {w:World} {o:Obj} {i:Nat} (h:i≠w.heap.size):(w.alloc o).heap[i]? =w.heap[i]? :=by simp only [World.alloc,Array.getElem?_push];rw [if_neg h]
theorem cE_ {w:World} {o:Obj}:(w.alloc o).heap[w.heap.size]? =some o:=by show (w.heap.push o)[w.heap.size]? =some o;simp
theorem fR_ {w:World} {o:Obj} {a:Addr} {v:Value} (h:w.cell? a=some v):(w.alloc o).cell? a=some v:=by
 grind [World.cell?,aO_]
theorem BlkAt.lt {E:Env} {w:World} {b o:Nat} {k:ABlk} (h:BlkAt E w b o k):b<w.heap.size:=by
 cases k with
 |cells cs=>grind [Go.Sx.BlkAt]
 |map es c=>grind [Go.Sx.BlkAt]
 |syl j=>grind [Go.Sx.BlkAt]
 |fz cs=>grind [Go.Sx.BlkAt]
 |mpl j=>grind [Go.Sx.BlkAt]
def Env.bind (E:Env) (id b o:Nat):Env:={ E with φ:=λi=>if i=id then some (b,o)else E.φ i }
def Env.size (E:Env) (b n:Nat):Env:={ E with sz:=λi=>if i=b then some n else E.sz i }
theorem Env.le_bind {E:Env} {id b o:Nat} (h:E.φ id=none):E.le (E.bind id b o):=by
 refine ⟨⟨λi x hx=>?_,λ_ _ h=>h,λ_ _ _ h=>h,rfl,rfl⟩,rfl,rfl,rfl⟩
 grind [Env.bind]
theorem Env.le_size {E:Env} {b n:Nat} (h:E.sz b=none):E.le (E.size b n):=by
 refine ⟨⟨λ_ _ h=>h,λi x hx=>?_,λ_ _ _ h=>h,rfl,rfl⟩,rfl,rfl,rfl⟩
 grind [Env.size]
section
variable {B:World} {pr:Nat->Prop} {E:Env} {H:AHeap} {w:World}
theorem Rel.sz_new (h:Rel B pr E H w):E.sz w.heap.size=none:=by
 cases hs:E.sz w.heap.size with
 |none=>rfl
 |some n=>obtain ⟨arr,t,fr,h1,_⟩:=h.szs _ _ hs;simp at h1
theorem Rel.room (h:H.room=true):H.next<H.hi/\H.next<top/\H.hi<=top:=by simp only [AHeap.room,Bool.and_eq_true,Nat.blt_eq,Nat.ble_eq]at h;omega
theorem Rel.resv_bind (h:Rel B pr E H w) (h1:H.next<H.hi) {b o:Nat} (id:Nat) (hi:E.res id):(E.bind H.next b o).φ id=none/\¬(Nat.succ H.next<=id/\id<H.hi):=by
 obtain ⟨q1,q2⟩:=h.resv id hi
 grind [Env.bind]
theorem Rel.new_cells (h:Rel B pr E H w) (hr:H.room=true) {cs:List AV} {arr:Array Value} {t:TypeId} (hl:cs.length<=arr.size)
  (hc:∀(i:Nat) (a:AV),cs[i]? =some a->∃v,arr[i]? =some v/\Con E a v):
  E.le ((E.bind H.next w.heap.size 0).size w.heap.size arr.size)/\
  Rel B pr ((E.bind H.next w.heap.size 0).size w.heap.size arr.size) (H.push (.cells cs)) (w.alloc (.cells arr t)):=by
 obtain ⟨h1,h2,h3⟩:=Rel.room hr;have hf:=h.fresh H.next (Nat.le_refl _) h1;have hle:E.le ((E.bind H.next w.heap.size 0).size w.heap.size arr.size):=Env.le_trans (Env.le_bind hf) (Env.le_size (by exact h.sz_new));refine ⟨hle,?_⟩;refine { own:=?_,ib:=h.ib,imm:=λb o v hi=>fR_ (h.imm b o v hi),fresh:=?_,resv:=h.resv_bind h1,vds:=h.vds,szs:=?_,prot:=?_,size:=?_,os:=h.os,output:=h.output }
 .obtain ⟨own,g1,g2,g3⟩:=h.own;refine ⟨λb=>if b=w.heap.size then some H.next else own b,λid k hk=>?_,λb hb=>?_,λb o v hi=>?_⟩;by_cases hid:H.next=id;subst hid;rw [AHeap.get_push_same H h2]at hk;cases hk;refine .inr ⟨w.heap.size,0,by simp [Env.bind,Env.size],by simp,arr,t,cE_,by simp [Env.size],by omega,λi a ha=>?_⟩;obtain ⟨v,hv,hcv⟩:=hc i a ha;exact ⟨v,by grind,hcv.mono hle⟩;rw [AHeap.get_push_ne H h2 hid]at hk;refine (g1 id k hk).imp (λx hx=>hle.1.1 _ _ hx) (λh=>h) λb o hφ ho hb=>?_;have hlt:=hb.lt;have hne:b≠w.heap.size:=(by omega);exact ⟨by grind,hb.mono hle (aO_ hne)⟩
  .have:=(h.prot b hb).1;have hs:=h.size
   grind
  .have hcell:=h.imm b o v hi;have hne:b≠w.heap.size:=by
    grind [World.cell?]
   simp [hne,g3 b o v hi]
 .intro id hid1 hid2;have hne:id≠H.next:=by have:H.next<id:=hid1;omega
  have:H.next<=id:=Nat.le_of_lt hid1;simp only [Env.size,Env.bind,if_neg hne];exact h.fresh id this hid2
 .intro b n hn;by_cases hb:b=w.heap.size;subst hb;simp only [Env.size,if_pos]at hn;cases hn;exact ⟨arr,t,_,cE_,rfl⟩
  .simp only [Env.size,if_neg hb]at hn;obtain ⟨arr',t',fr',g1,g2⟩:=h.szs b n hn
   grind [aO_]
 .intro b hb;obtain ⟨g1,g2⟩:=h.prot b hb
  grind [aO_]
 have:=h.size;simp;omega
theorem Rel.set_cells (h:Rel B pr E H w) {id:Nat} {k:ABlk} (hk:H.get id=some k) {b o:Nat} (hφ:E.φ id=some (b,o))
  {arr:Array Value} {t:TypeId} (hg:w.heap[b]? =some (.cells arr t (0,0))) {arr':Array Value} (hsz:arr'.size=arr.size) {cs':List AV} (hl:o+cs'.length<=arr.size)
  (hc:∀(i:Nat) (a:AV),cs'[i]? =some a->∃v,arr'[o+i]? =some v/\Con E a v) (hnv:¬Void E k:=by exact λh=>h):
  Rel B pr E (H.set id (.cells cs')) (w.setRow b arr'):=by
 obtain ⟨own,g1,g2,g3⟩:=h.own;obtain ⟨_,hvoid⟩|⟨b',o',hφ',hown,hb⟩:=g1 id k hk
 .grind
 rw [hφ]at hφ';cases hφ';have hidlt:=AHeap.get_lt hk;have hnew:(w.setRow b arr').heap[b]? =some (.cells arr' t (0,0)):=setRow_heap w b arr arr' t (0,0) hg;refine { own:=⟨own,λid' k' hk'=>?_,g2,g3⟩,ib:=h.ib,imm:=?_,fresh:=h.fresh,resv:=h.resv,vds:=h.vds,szs:=?_,prot:=?_,size:=by simpa using h.size,os:=h.os,output:=h.output }
 .by_cases hid:id=id'
  .subst hid;rw [AHeap.get_set_same H hidlt]at hk';cases hk';refine .inr ⟨b,o,hφ,hown,arr',t,hnew,?_,by omega,hc⟩;rw [hsz];cases k with
   |cells cs=>simp_all [Go.Sx.BlkAt]
   |map es c=>simp_all [Go.Sx.BlkAt]
   |syl j=>obtain ⟨_,_,_,_,_,arr2,t2,e1,e2,_⟩:=hb;grind
   |fz cs=>obtain ⟨arr2,t2,fr2,e1,e2,_⟩:=hb;grind
   |mpl j=>simp_all [Go.Sx.BlkAt]
  .rw [AHeap.get_set_ne H hidlt hid]at hk';refine (g1 id' k' hk').imp (λ_ h=>h) (λh=>h) λb2 o2 hφ2 hown2 hb2=>?_;have hne:b2≠b:=by
    grind
   exact ⟨hown2,hb2.mono (Env.le_refl _) (setRow_other w b b2 arr' hne)⟩
 intro b2 o2 v hi;have hne:b2≠b:=(by grind);rw [cell_setRow_other w b arr' _ hne];exact h.imm b2 o2 v hi
 .intro b2 n hn;obtain ⟨arr2,t2,fr2,e1,e2⟩:=h.szs b2 n hn
  grind [setRow_other]
 intro b2 hb2;have hne:b2≠b:=(by grind);exact ⟨(h.prot b2 hb2).1,(setRow_other w b b2 arr' hne).trans (h.prot b2 hb2).2⟩
theorem Rel.forget (h:Rel B pr E H w) {H':AHeap} (hsub:∀id k,H'.get id=some k->H.get id=some k) (hn:H.next<=H'.next) (hh:H'.hi<=H.hi):Rel B pr E H' w:=by
 obtain ⟨own,g1,g2⟩:=h.own
 exact { own:=⟨own,λid k hk=>g1 id k (hsub id k hk),g2⟩,ib:=h.ib,imm:=h.imm,fresh:=λid h1 h2=>h.fresh id (Nat.le_trans hn h1) (Nat.lt_of_lt_of_le h2 hh),resv:=λid hi=>⟨(h.resv id hi).1,λhx=>(h.resv id hi).2 ⟨Nat.le_trans hn hx.1,Nat.lt_of_lt_of_le hx.2 hh⟩⟩,vds:=h.vds,szs:=h.szs,prot:=h.prot,
         size:=h.size,os:=h.os,output:=h.output }
theorem Rel.erase (h:Rel B pr E H w) (id:Nat):Rel B pr E (H.erase id) w:=by
 refine h.forget (λid' k hk=>?_) (Nat.le_refl _) (Nat.le_refl _)
 grind [AHeap.get_erase_same,AHeap.get_erase_ne]
theorem Rel.renew (h:Rel B pr E H w) (hr:H.room=true) {id:Nat} {k:ABlk} (hk:H.get id=some k) {b o:Nat} (hφ:E.φ id=some (b,o))
  {arr:Array Value} {t:TypeId} (hg:w.heap[b]? =some (.cells arr t (0,0))) {o':Nat} {cs':List AV} (hl:o'+cs'.length<=arr.size)
  (hc:∀(i:Nat) (a:AV),cs'[i]? =some a->∃v,arr[o'+i]? =some v/\Con E a v) (hnv:¬Void E k:=by exact λh=>h):
  E.le (E.bind H.next b o')/\Rel B pr (E.bind H.next b o') ((H.erase id).push (.cells cs')) w:=by
 obtain ⟨h1,h2,h3⟩:=Rel.room hr;have hf:=h.fresh H.next (Nat.le_refl _) h1;have hle:E.le (E.bind H.next b o'):=Env.le_bind hf;refine ⟨hle,?_⟩;obtain ⟨own,g1,g2,g3⟩:=h.own;obtain ⟨_,hvoid⟩|⟨b',o2,hφ',hown,hb⟩:=g1 id k hk
 .grind
 rw [hφ]at hφ';cases hφ';have hsz:E.sz b=some arr.size:=by
  cases k with
  |cells cs=>
   obtain ⟨arr2,t2,e1,e2,_⟩:=hb
   grind
  |map es c=>obtain ⟨_,es',e1,_⟩:=hb;grind
  |syl j=>obtain ⟨_,_,_,_,_,arr2,t2,e1,e2,_⟩:=hb;grind
  |fz cs=>obtain ⟨arr2,t2,fr2,e1,e2,_⟩:=hb;grind
  |mpl j=>obtain ⟨_,_,_,_,es',c,e1,_⟩:=hb;grind
 refine { own:=?_,ib:=h.ib,imm:=h.imm,fresh:=?_,resv:=h.resv_bind h1,vds:=h.vds,szs:=h.szs,prot:=h.prot,size:=h.size,os:=h.os,output:=h.output }
 .refine ⟨λx=>if x=b then some H.next else own x,λid' k' hk'=>?_,λx hx=>?_,λx y v hi=>?_⟩;by_cases hid':H.next=id';subst hid';have e:((H.erase id).push (.cells cs')).get H.next=some (.cells cs'):=AHeap.get_push_same (H.erase id) h2 _;rw [e]at hk';cases hk';refine .inr ⟨b,o',by simp [Env.bind],by simp,arr,t,hg,hsz,hl,λi a ha=>?_⟩;obtain ⟨v,hv,hcv⟩:=hc i a ha;exact ⟨v,hv,hcv.mono hle⟩;have e:((H.erase id).push (.cells cs')).get id'=(H.erase id).get id':=AHeap.get_push_ne (H.erase id) h2 hid' _;rw [e]at hk';have hne:id≠id':=(by grind [AHeap.get_erase_same]);rw [AHeap.get_erase_ne H hne]at hk';refine (g1 id' k' hk').imp (λx hx=>hle.1.1 _ _ hx) (λh=>h) λb3 o3 hφ3 hown3 hb3=>?_;have hneb:b3≠b:=(by grind);exact ⟨by grind,hb3.mono hle rfl⟩
  .grind
  have hne:x≠b:=(by intro e;subst e;rw [g3 _ _ _ hi]at hown;cases hown);simp [hne,g3 x y v hi]
 intro i hi1 hi2;have hlt:H.next<i:=hi1;have hne:i≠H.next:=(by omega);simp only [Env.bind,if_neg hne];exact h.fresh i (Nat.le_of_lt hlt) hi2
theorem Rel.moveF (h:Rel B pr E H w) (hr:H.room=true) {id:Nat} {k:ABlk} (hk:H.get id=some k) {b o:Nat} (hφ:E.φ id=some (b,o))
  {arr:Array Value} {t:TypeId} {fr:Nat×Nat} (hg:w.heap[b]? =some (.cells arr t fr)) (hs:E.sz b=some arr.size) {arr':Array Value} (hsz:arr'.size=arr.size) {o':Nat} {cs':List AV} (hl:o'+cs'.length<=arr.size) (hfr:fr.2<=o'+cs'.length)
  (hc:∀(i:Nat) (a:AV),cs'[i]? =some a->∃v,arr'[o'+i]? =some v/\Con E a v) (hnv:¬Void E k:=by exact λh=>h):
  E.le (E.bind H.next b o')/\Rel B pr (E.bind H.next b o') ((H.erase id).push (.fz cs')) (w.setRow b arr'):=by
 obtain ⟨h1,h2,h3⟩:=Rel.room hr;have hf:=h.fresh H.next (Nat.le_refl _) h1;have hle:E.le (E.bind H.next b o'):=Env.le_bind hf;refine ⟨hle,?_⟩;have hid:=AHeap.get_lt hk;obtain ⟨own,g1,g2,g3⟩:=h.own;obtain ⟨_,hvoid⟩|⟨b',o2,hφ',hown,hb⟩:=g1 id k hk
 .grind
 rw [hφ]at hφ';cases hφ';have hnew:(w.setRow b arr').heap[b]? =some (.cells arr' t fr):=setRow_heap w b arr arr' t fr hg;have hpr:∀x,pr x->x≠b:=λx hx e=>by grind
 have him:∀x y v,E.imm x y=some v->x≠b:=λx y v hx e=>by grind
 refine { own:=?_,imm:=λx y v hi=>?_,ib:=h.ib,fresh:=?_,resv:=h.resv_bind h1,vds:=h.vds,szs:=λx n hn=>?_,prot:=λx hx=>?_,size:=by simpa using h.size,os:=h.os,output:=h.output }
 .refine ⟨λx=>if x=b then some H.next else own x,λid' k' hk'=>?_,λx hx=>?_,λx y v hi=>?_⟩;by_cases hid':H.next=id';subst hid';have e:((H.erase id).push (.fz cs')).get H.next=some (.fz cs'):=AHeap.get_push_same (H.erase id) h2 _;rw [e]at hk';cases hk';refine .inr ⟨b,o',by simp [Env.bind],by simp,arr',t,fr,hnew,by rw [hsz];exact hs,by omega,hfr,λi a ha=>?_⟩;obtain ⟨v,hv,hcv⟩:=hc i a ha;exact ⟨v,hv,hcv.mono hle⟩;have e:((H.erase id).push (.fz cs')).get id'=(H.erase id).get id':=AHeap.get_push_ne (H.erase id) h2 hid' _;rw [e]at hk';have hne:id≠id':=(by grind [AHeap.get_erase_same]);rw [AHeap.get_erase_ne H hne]at hk';refine (g1 id' k' hk').imp (λx hx=>hle.1.1 _ _ hx) (λh=>h) λb3 o3 hφ3 hown3 hb3=>?_;have hneb:b3≠b:=(by grind);exact ⟨by grind,hb3.mono hle (setRow_other w b b3 arr' hneb)⟩
  .grind
  simp [him x y v hi,g3 x y v hi]
 rw [cell_setRow_other w b arr' _ (him x y v hi)];exact h.imm x y v hi;intro i hi1 hi2;have hlt:H.next<i:=hi1;have hne:i≠H.next:=(by omega);simp only [Env.bind,if_neg hne];exact h.fresh i (Nat.le_of_lt hlt) hi2
 .obtain ⟨arr2,t2,fr2,e1,e2⟩:=h.szs x n hn
  grind [setRow_other]
 exact ⟨(h.prot x hx).1,(setRow_other w b x arr' (hpr x hx)).trans (h.prot x hx).2⟩
theorem Rel.toF (h:Rel B pr E H w) {id:Nat} {cs:List AV} (hk:H.get id=some (.cells cs)):Rel B pr E (H.set id (.fz cs)) w:=by
 obtain ⟨own,g1,g2⟩:=h.own;refine { own:=⟨own,λid' k' hk'=>?_,g2⟩,imm:=h.imm,ib:=h.ib,fresh:=h.fresh,resv:=h.resv,vds:=h.vds,szs:=h.szs,prot:=h.prot,size:=h.size,os:=h.os,output:=h.output };by_cases e:id=id';subst e;rw [AHeap.get_set_same H (AHeap.get_lt hk)]at hk';cases hk';obtain ⟨_,hvoid⟩|⟨b,o,h1,h2,arr,t,h3,h4,h5,h6⟩:=g1 id _ hk;exact hvoid.elim;exact .inr ⟨b,o,h1,h2,arr,t,(0,0),h3,h4,h5,Nat.zero_le _,h6⟩
 grind [AHeap.get_set_ne,AHeap.get_lt]
theorem Rel.new_map (h:Rel B pr E H w) (hr:H.room=true):
  E.le (E.bind H.next w.heap.size 0)/\Rel B pr (E.bind H.next w.heap.size 0) (H.push (.map [] 0)) (w.alloc (.map #[] 0)):=by
 obtain ⟨h1,h2,h3⟩:=Rel.room hr;have hf:=h.fresh H.next (Nat.le_refl _) h1;have hle:E.le (E.bind H.next w.heap.size 0):=Env.le_bind hf;refine ⟨hle,?_⟩;refine { own:=?_,ib:=h.ib,imm:=λb o v hi=>fR_ (h.imm b o v hi),fresh:=?_,resv:=h.resv_bind h1,vds:=h.vds,szs:=?_,prot:=?_,size:=?_,os:=h.os,output:=h.output }
 .obtain ⟨own,g1,g2,g3⟩:=h.own;refine ⟨λb=>if b=w.heap.size then some H.next else own b,λid k hk=>?_,λb hb=>?_,λb o v hi=>?_⟩;by_cases hid:H.next=id;subst hid;rw [AHeap.get_push_same H h2]at hk;cases hk;exact .inr ⟨w.heap.size,0,by simp [Env.bind],by simp,rfl,#[],cE_,by simp [ConE]⟩;rw [AHeap.get_push_ne H h2 hid]at hk;refine (g1 id k hk).imp (λx hx=>hle.1.1 _ _ hx) (λh=>h) λb o hφ ho hb=>?_;have hlt:=hb.lt;have hne:b≠w.heap.size:=(by omega);exact ⟨by grind,hb.mono hle (aO_ hne)⟩
  .have:=(h.prot b hb).1;have hs:=h.size
   grind
  .have hcell:=h.imm b o v hi;have hne:b≠w.heap.size:=by
    grind [World.cell?]
   simp [hne,g3 b o v hi]
 intro id hid1 hid2;have hlt:H.next<id:=hid1;have hne:id≠H.next:=(by omega);simp only [Env.bind,if_neg hne];exact h.fresh id (Nat.le_of_lt hlt) hid2
 .intro b n hn;obtain ⟨arr',t',fr',g1,g2⟩:=h.szs b n hn
  grind [aO_]
 .intro b hb;obtain ⟨g1,g2⟩:=h.prot b hb
  grind [aO_]
 have:=h.size;simp;omega
theorem Rel.set_map (h:Rel B pr E H w) {id:Nat} {es0:List (AV×AV×Nat)} {c0:Nat} (hk:H.get id=some (.map es0 c0)) {b o:Nat} (hφ:E.φ id=some (b,o))
  {es:List (AV×AV×Nat)} {c:Nat} {es':Array MapEntry} (hc:ConE E es es'.toList):
  Rel B pr E (H.set id (.map es c)) { w with heap:=w.heap.setIfInBounds b (.map es' c) }:=by
 obtain ⟨own,g1,g2,g3⟩:=h.own;obtain ⟨_,hvoid⟩|⟨b',o',hφ',hown,hb⟩:=g1 id _ hk;exact hvoid.elim;rw [hφ]at hφ';cases hφ';have hidlt:=AHeap.get_lt hk;obtain ⟨ho0,es1,hg,_⟩:=hb;have hblt:=getElem?_lt_of_some hg;have hother:∀j,j≠b->(w.heap.setIfInBounds b (.map es' c))[j]? =w.heap[j]? :=λj hj=>by
  grind
 have hsame:(w.heap.setIfInBounds b (.map es' c))[b]? =some (.map es' c):=by
  grind
 refine { own:=⟨own,λid' k' hk'=>?_,g2,g3⟩,ib:=h.ib,imm:=?_,fresh:=h.fresh,resv:=h.resv,vds:=h.vds,szs:=?_,prot:=?_,size:=by simpa using h.size,os:=h.os,output:=h.output }
 .by_cases hid:id=id';subst hid;rw [AHeap.get_set_same H hidlt]at hk';cases hk';exact .inr ⟨b,o,hφ,hown,ho0,es',hsame,hc⟩
  .rw [AHeap.get_set_ne H hidlt hid]at hk';refine (g1 id' k' hk').imp (λ_ h=>h) (λh=>h) λb2 o2 hφ2 hown2 hb2=>?_;have hne:b2≠b:=by
    grind
   exact ⟨hown2,hb2.mono (Env.le_refl _) (hother b2 hne)⟩
 .intro b2 o2 v hi;have:=h.imm b2 o2 v hi
  grind [World.cell?]
 .intro b2 n hn;obtain ⟨arr2,t2,fr2,e1,e2⟩:=h.szs b2 n hn
  grind
 intro b2 hb2;have hne:b2≠b:=(by grind);exact ⟨(h.prot b2 hb2).1,(hother b2 hne).trans (h.prot b2 hb2).2⟩
end
def aJ_ (P:Program) {α:Type}:Sem α->Option α
 | .pure a=>some a
 | .program k=>aJ_ P (k P)
 | .mark _ k=>aJ_ P k
 |_=>none
theorem bx_ {P:Program} {α:Type}:∀{s:Sem α} {a:α},aJ_ P s=some a->∀w,s.run P w=.ok a w
 | .pure a,b,h,w=>by simp_all [aJ_]
 | .program k,b,h,w=>by simp only [aJ_]at h;exact bx_ (s:=k P) h w
 | .mark m k,b,h,w=>by simp only [aJ_]at h;exact bx_ (s:=k) h w
 | .load ..,b,h,w=>by simp [aJ_]at h
 | .store ..,b,h,w=>by simp [aJ_]at h
 | .new ..,b,h,w=>by simp [aJ_]at h
 | .shape ..,b,h,w=>by simp [aJ_]at h
 | .freeze ..,b,h,w=>by simp [aJ_]at h
 | .frozen ..,b,h,w=>by simp [aJ_]at h
 | .getObj ..,b,h,w=>by simp [aJ_]at h
 | .setObj ..,b,h,w=>by simp [aJ_]at h
 | .choose ..,b,h,w=>by simp [aJ_]at h
 | .sys ..,b,h,w=>by simp [aJ_]at h
 | .halt ..,b,h,w=>by simp [aJ_]at h
def qA_:Value->AV
 | .bool b=>.bool b
 | .int k n=>.int k n
 | .float k n=>.flt k n
 | .string ⟨⟨s⟩⟩=>.str s
 | .pointer none=>.nptr
 | .slice none 0 0=>.nsl
 | .map none=>.nmap
 | .nilFunc=>.nfn
 | .nilIface=>.nif
 | .func (.func f) ⟨[]⟩ ⟨[]⟩=>.fn f []
 |_=>.opq
theorem gi_ (E:Env) (v:Value):Con E (qA_ v) v:=by
 unfold qA_
 grind [Con,ConL]
def qz_:List Value->List AV
 |[]=>[]
 |v::r=>qA_ v::qz_ r
theorem fe_ (E:Env):∀vs:List Value,ConL E (qz_ vs) vs
 |[]=>by simp [qz_,ConL]
 |v::r=>ConL.cons (gi_ E v) (fe_ E r)
def ofV:Value->AV
 | .agg ⟨cs⟩=>.agg (qz_ cs)
 | .tuple ⟨cs⟩=>.tup (qz_ cs)
 | .iface t v=>.iface t (qA_ v)
 |v=>qA_ v
theorem cX_ (E:Env) (v:Value):Con E (ofV v) v:=by unfold ofV;split;exact ⟨_,rfl,fe_ E _⟩;exact ⟨_,rfl,fe_ E _⟩;exact ⟨_,rfl,gi_ E _⟩;exact gi_ E _
def at_ (z:Value):List AV:=match z with
 | .agg ⟨cs⟩=>qz_ cs
 |v=>[qA_ v]
theorem a8_ (E:Env) (z:Value):ConL E (at_ z) z.cells.toList:=by
 unfold at_;split;exact fe_ E _
 .rename_i h;cases z<;>first|exact ConL.cons (gi_ E _) (ConL.nil E)|exact absurd rfl (h _)
def jq_:AV->Option Value
 | .bool b=>some (.bool b)
 | .int k n=>some (.int k n)
 | .flt k n=>some (.float k n)
 | .str s=>some (.string ⟨⟨s⟩⟩)
 | .nptr=>some (.pointer none)
 | .nsl=>some (.slice none 0 0)
 | .nmap=>some (.map none)
 | .nfn=>some .nilFunc
 | .nif=>some .nilIface
 | .fn f []=>some (.func (.func f) #[] #[])
 |_=>none
theorem hk_ {E:Env} {a:AV} {u v:Value} (h:jq_ a=some u) (hc:Con E a v):v=u:=by
 unfold jq_ at h;split at h<;>first
  |(cases h;done)
  |(cases h;simpa only [Con]using hc)
  |(cases h;simp only [Con,ConL]at hc;obtain ⟨vs,rfl,rfl⟩:=hc;rfl)
def fw_:List AV->Option (List Value)
 |[]=>some []
 |a::r=>match jq_ a with
  |none=>none
  |some v=>match fw_ r with
   |none=>none
   |some vs=>some (v::vs)
theorem f2_ {E:Env}:∀{as:List AV} {us vs:List Value},fw_ as=some us->ConL E as vs->vs=us
 |[],us,vs,h,hc=>by grind [fw_,ConL]
 |a::as,us,vs,h,hc=>by simp only [fw_]at h;simp only [ConL]at hc;obtain ⟨v,r,rfl,h2,h3⟩:=hc;split at h;cases h;rename_i v0 hv0;split at h;cases h;rename_i vs0 hvs0;cases h;rw [hk_ hv0 h2,f2_ hvs0 h3]
def plain:AV->Option Value
 | .agg cs=>match fw_ cs with
   |some l=>some (.agg ⟨l⟩)
   |none=>none
 | .tup cs=>match fw_ cs with
   |some l=>some (.tuple ⟨l⟩)
   |none=>none
 | .iface t a=>match jq_ a with
   |some v=>some (.iface t v)
   |none=>none
 |a=>jq_ a
theorem eY_ {E:Env} {a:AV} {u v:Value} (h:plain a=some u) (hc:Con E a v):v=u:=by
 cases a with
 |agg cs=>simp only [plain]at h;split at h;rename_i l hl;cases h;obtain ⟨vs,rfl,h2⟩:=hc;rw [f2_ hl h2];cases h
 |tup cs=>simp only [plain]at h;split at h;rename_i l hl;cases h;obtain ⟨vs,rfl,h2⟩:=hc;rw [f2_ hl h2];cases h
 |iface t a=>simp only [plain]at h;split at h;rename_i l hl;cases h;obtain ⟨vs,rfl,h2⟩:=hc;rw [hk_ hl h2];cases h
 |_=>grind [hk_,plain]
def Gives (P:Program) (B:World) (pr:Nat->Prop) (E:Env) (w:World) (s:Sem Value) (r:AV×AHeap):Prop:=
 ∃E' v' w',s.run P w=.ok v' w'/\E.le E'/\Rel B pr E' r.2 w'/\Con E' r.1 v'
section
variable {P:Program} {B:World} {pr:Nat->Prop} {E:Env} {H:AHeap} {w:World}
theorem Gives.still {s:Sem Value} {a:AV} {v:Value} (hr:Rel B pr E H w) (h:s.run P w=.ok v w) (hc:Con E a v):Gives P B pr E w s (a,H):=
 ⟨E,v,w,h,Env.le_refl _,hr,hc⟩
def aX_:Nat->List AV->Option (List AV)
 |0,_=>some []
 |_+1,[]=>none
 |n+1,a::r=>match aX_ n r with
  |some t=>some (a::t)
  |none=>none
theorem bH_:∀{n:Nat} {l r:List AV},aX_ n l=some r->r=l.take n/\r.length=n
 |0,l,r,h=>by grind [aX_]
 |n+1,[],r,h=>by simp [aX_]at h
 |n+1,a::l,r,h=>by simp only [aX_]at h;split at h;rename_i t ht;cases h;obtain ⟨h1,h2⟩:=bH_ ht;exact ⟨by rw [List.take_succ_cons,←h1],by simp [h2]⟩;cases h
def aj_:Nat->List AV->List AV
 |0,l=>l
 |_+1,[]=>[]
 |n+1,_::r=>aj_ n r
theorem aA_:∀(n:Nat) (l:List AV),aj_ n l=l.drop n
 |0,l=>rfl
 |n+1,[]=>rfl
 |n+1,a::r=>aA_ n r
def aV_ (H:AHeap) (a:AV) (n:Nat):Option (List AV):=match a with
 | .ptr id off=>match H.get id with
   |some (.cells cs)=>aX_ n (aj_ off cs)
   |_=>none
 | .vptr cs=>aX_ n cs
 |_=>none
theorem bv_ (hr:Rel B pr E H w) {a:AV} {v:Value} (hc:Con E a v) {n:Nat} {l:List AV} (h:aV_ H a n=some l):
  ∃b o vs,v=.pointer (some ⟨b,o,none⟩)/\vs.length=n/\ConL E l vs/\∀(j:Nat) (u:Value),vs[j]? =some u->w.cell? ⟨b,o+j,none⟩=some u:=by
 unfold aV_ at h;split at h
 .rename_i id off;split at h
  .rename_i cs hk;obtain ⟨h1,h2⟩:=bH_ h;rw [aA_]at h1;obtain ⟨b,o,hφ,rfl⟩:=hc;obtain ⟨arr,t,g1,g2,g3,g4⟩:=hr.blk hk hφ;refine ⟨b,o+off,(arr.toList.drop (o+off)).take n,rfl,?_,?_,?_⟩
   .grind
   .refine ConL.of_at ?_ λi x u hx hu=>?_
    .grind
    grind
   grind [World.cell?]
  cases h
 rename_i cs;obtain ⟨h1,h2⟩:=bH_ h;obtain ⟨b,o,vs,rfl,hL,hI⟩:=hc;refine ⟨b,o,vs.take n,rfl,?_,?_,?_⟩;have:n<=cs.length:=(by grind);simp [hL.length];omega;rw [h1];exact hL.take n;intro j u hu;simp only [List.getElem?_take]at hu;split at hu;exact hr.imm _ _ _ (hI j u hu);cases hu;cases h
theorem bG_ {b o:Nat} {vs:List Value} (h:∀(j:Nat) (u:Value),vs[j]? =some u->w.cell? ⟨b,o+j,none⟩=some u):
  (loadCells ⟨b,o,none⟩ vs.length).run P w=.ok ⟨vs⟩ w:=by
 grind [run_loadCells_list,Addr.add_lit]
def l7_ (d:TypeDesc):Bool:=match d with
 | .struct _| .array _ _=>true
 |_=>false
theorem bO_ {t:TypeId} {d:TypeDesc} (h:P.underlying t=some d):(isAgg t).run P w=.ok (l7_ d) w:=by unfold isAgg;simp only [Sem.run_bind,run_underlying h,Result.andThen_ok,l7_];split<;>simp_all
theorem af_ {t:TypeId} {i:TypeInfo} (h:P.info? t=some i):(sizeOf t).run P w=.ok i.size w:=by simp [sizeOf,typeInfo,h]
def bn_ (P:Program) (H:AHeap) (t:TypeId) (a:AV):Option AV:=match P.underlying t with
 |none=>none
 |some d=>match l7_ d with
  |true=>match P.info? t with
   |none=>none
   |some i=>match aV_ H a i.size with
    |some l=>some (.agg l)
    |none=>none
  |false=>match aV_ H a 1 with
   |some [c]=>some c
   |_=>none
theorem n2_ (hr:Rel B pr E H w) {t:TypeId} {a:AV} {v:Value} (hc:Con E a v) {r:AV} (h:bn_ P H t a=some r):
  Gives P B pr E w (Instr.loadAt t v) (r,H):=by
 unfold bn_ at h;split at h;cases h;rename_i d hd;split at h
 .rename_i hag;split at h;cases h;rename_i i hi;split at h;rename_i l hl;cases h;obtain ⟨b,o,vs,rfl,hlen,hL,hcell⟩:=bv_ hr hc hl;refine Gives.still hr (v:=.agg ⟨vs⟩) ?_ (by simp only [Con];grind);have:=bG_ (P:=P) hcell;simp_all [Instr.loadAt,Instr.sureAddr,loadVar,bO_,af_]
  cases h
 .rename_i hag;split at h;rename_i c hl;cases h;obtain ⟨b,o,vs,rfl,hlen,hL,hcell⟩:=bv_ hr hc hl;obtain ⟨u,hu,hcu⟩:=hL.at 0 r rfl;refine Gives.still hr (v:=u) ?_ hcu;have:=hcell 0 u hu;simp_all [Instr.loadAt,Instr.sureAddr,loadVar,bO_]
  cases h
def bY_ (P:Program) (s:TypeId) (a:AV) (f:Nat):Option AV:=match P.underlying s with
 |some (.struct fields)=>match fields[f]? with
  |some fl=>match P.info? fl.type with
   |some i=>match i.size with
    |0=>none
    |_+1=>match a with
     | .ptr id off=>some (.ptr id (Nat.add off fl.offset))
     | .vptr cs=>match Nat.ble fl.offset cs.length with
       |true=>some (.vptr (aj_ fl.offset cs))
       |false=>none
     |_=>none
   |none=>none
  |none=>none
 |_=>none
theorem hF_ (hr:Rel B pr E H w) {s:TypeId} {a:AV} {v:Value} (hc:Con E a v) {f:Nat} {r:AV} (h:bY_ P s a f=some r):
  Gives P B pr E w (Instr.fieldAt s v f) (r,H):=by
 unfold bY_ at h;split at h
 .rename_i fields hd;split at h
  .rename_i fl hfl;split at h
   .rename_i i hi;split at h;cases h;rename_i n hn;split at h;rename_i id off;cases h;obtain ⟨b,o,hφ,rfl⟩:=hc;refine Gives.still hr (v:=.pointer (some ⟨b,o+(off+fl.offset),none⟩)) ?_ (by simp only [Con];grind);simp_all [Instr.fieldAt,run_underlying,Instr.sureAddr,fieldPlace,af_,Addr.add_lit]
    .split at h
     .cases h;obtain ⟨b,o,vs,rfl,hL,hI⟩:=hc;refine Gives.still hr (v:=.pointer (some ⟨b,o+fl.offset,none⟩)) ?_ ?_;simp_all [Instr.fieldAt,run_underlying,Instr.sureAddr,fieldPlace,af_,Addr.add_lit]
      .simp only [Con,aA_];refine ⟨b,o+fl.offset,vs.drop fl.offset,rfl,hL.drop _,λi u hu=>?_⟩;rw [List.getElem?_drop]at hu;have:=hI _ _ hu
       grind
     cases h
    cases h
   cases h
  cases h
 cases h
def idx (i:Int) (len:Nat):Option Nat:=match i with
 | .ofNat n=>match Nat.blt n len with
   |true=>some n
   |false=>none
 | .negSucc _=>none
theorem lE_ {i:Int} {len n:Nat} (h:idx i len=some n):i=(n:Int)/\n<len:=by
 unfold idx at h;split at h
 .split at h<;>simp_all
 cases h
def aS_ (P:Program) (t:TypeId) (x ix:AV):Option AV:=match ix with
 | .int _ i=>match P.underlying t with
   |some (.slice e)=>match P.info? e with
    |some ti=>match x with
     | .sl id off len _ _=>match idx i len with
       |some n=>some (.ptr id (Nat.add off (Nat.mul n ti.size)))
       |none=>none
     | .vsl len _ cs=>match idx i len with
       |some n=>some (.vptr (aj_ (Nat.mul n ti.size) cs))
       |none=>none
     |_=>none
    |none=>none
   |some (.array len e)=>match P.info? e with
    |some ti=>match x with
     | .ptr id off=>match idx i len with
       |some n=>some (.ptr id (Nat.add off (Nat.mul n ti.size)))
       |none=>none
     | .vptr cs=>match idx i len with
       |some n=>some (.vptr (aj_ (Nat.mul n ti.size) cs))
       |none=>none
     |_=>none
    |none=>none
   |_=>none
 |_=>none
theorem cR_ (hr:Rel B pr E H w) {t:TypeId} {x ix:AV} {v iv:Value} (hc:Con E x v) (hi:Con E ix iv) {r:AV} (h:aS_ P t x ix=some r):
  Gives P B pr E w (Instr.indexAt t v iv) (r,H):=by
 unfold aS_ at h;split at h
 .rename_i k i;simp only [Con]at hi;subst hi;split at h
  .rename_i e hd;split at h
   .rename_i ti hti;split at h;rename_i id off len sz cap;split at h;rename_i n hn;cases h;obtain ⟨rfl,hlt⟩:=lE_ hn;obtain ⟨b,o,m,c,off',hφ,hsz,rfl,hoff,hle,_⟩:=hc;obtain rfl:=hoff (by omega);refine Gives.still hr (v:=.pointer (some ⟨b,o+(off'+n*ti.size),none⟩)) ?_ (by simp only [Con];grind);have h0:(0:Int)<=(n:Int)/\(n:Int)<(len:Int):=(by omega);simp [Instr.indexAt,asIntOf,run_underlying hd,h0,hlt,af_ hti,Addr.add_lit,Nat.add_assoc];cases h
    .rename_i len sz cs;split at h
     .rename_i n hn;cases h;obtain ⟨rfl,hlt⟩:=lE_ hn;obtain ⟨b,o,vs,c,rfl|⟨rfl,_,_⟩,hle,hL,hI⟩:=hc
      case inr=>exact absurd hlt (Nat.not_lt_zero _)
      refine Gives.still hr (v:=.pointer (some ⟨b,o+n*ti.size,none⟩)) ?_ ?_;have h0:(0:Int)<=(n:Int)/\(n:Int)<(len:Int):=(by omega);simp [Instr.indexAt,asIntOf,run_underlying hd,h0,hlt,af_ hti,Addr.add_lit]
      .simp only [Con,aA_];refine ⟨b,o+n*ti.size,vs.drop (n*ti.size),rfl,hL.drop _,λi u hu=>?_⟩;rw [List.getElem?_drop]at hu;have:=hI _ _ hu
       grind
     cases h
    cases h
   cases h
  .rename_i len e hd;split at h
   .rename_i ti hti;split at h;rename_i id off;split at h;rename_i n hn;cases h;obtain ⟨rfl,hlt⟩:=lE_ hn;obtain ⟨b,o,hφ,rfl⟩:=hc;refine Gives.still hr (v:=.pointer (some ⟨b,o+(off+n*ti.size),none⟩)) ?_ (by simp only [Con];grind);have h0:(0:Int)<=(n:Int)/\(n:Int)<(len:Int):=(by omega);simp [Instr.indexAt,asIntOf,run_underlying hd,Instr.sureAddr,h0,hlt,af_ hti,Addr.add_lit,Nat.add_assoc];cases h
    .split at h
     .rename_i n hn;cases h;obtain ⟨rfl,hlt⟩:=lE_ hn;obtain ⟨b,o,vs,rfl,hL,hI⟩:=hc;refine Gives.still hr (v:=.pointer (some ⟨b,o+n*ti.size,none⟩)) ?_ ?_;have h0:(0:Int)<=(n:Int)/\(n:Int)<(len:Int):=(by omega);simp [Instr.indexAt,asIntOf,run_underlying hd,Instr.sureAddr,h0,hlt,af_ hti,Addr.add_lit]
      .simp only [Con,aA_];refine ⟨b,o+n*ti.size,vs.drop (n*ti.size),rfl,hL.drop _,λi u hu=>?_⟩;rw [List.getElem?_drop]at hu;have:=hI _ _ hu
       grind
     cases h
    cases h
   cases h
  cases h
 cases h
def iN_ (P:Program) (t:TypeId) (cs:List AV) (off:Nat):Option AV:=match P.underlying t with
 |none=>none
 |some d=>match l7_ d with
  |true=>match P.info? t with
   |none=>none
   |some i=>match aX_ i.size (aj_ off cs)with
    |some l=>some (.agg l)
    |none=>none
  |false=>match aj_ off cs with
   |c::_=>some c
   |[]=>none
theorem fV_ {t:TypeId} {cs:List AV} {vs:List Value} (hL:ConL E cs vs) {off:Nat} {r:AV} (h:iN_ P t cs off=some r):
  ∃u,(part t ⟨vs⟩ off).run P w=.ok u w/\Con E r u:=by
 unfold iN_ at h;split at h;cases h;rename_i d hd;split at h
 .rename_i hag;split at h;cases h;rename_i i hi;split at h
  .rename_i l hl;cases h;obtain ⟨h1,h2⟩:=bH_ hl;rw [aA_]at h1;refine ⟨.agg ⟨(vs.drop off).take i.size⟩,?_,?_⟩;simp_all [part,bO_,af_]
   exact ⟨_,rfl,by rw [h1];exact (hL.drop off).take _⟩
  cases h
 .rename_i hag;split at h
  .rename_i c r' hcs;cases h;rw [aA_]at hcs;have hx:cs[off]? =some r:=by
    have:(cs.drop off)[0]? =some r:=by rw [hcs];rfl
    grind
   obtain ⟨u,hu,hcu⟩:=hL.at off r hx;simp_all [part,bO_]
  cases h
def eG_ (P:Program) (s:TypeId) (a:AV) (f:Nat):Option AV:=match P.underlying s with
 |some (.struct fields)=>match fields[f]? with
  |some fl=>match a with
   | .agg cs=>iN_ P fl.type cs fl.offset
   |_=>none
  |none=>none
 |_=>none
theorem lu_ (hr:Rel B pr E H w) {s:TypeId} {a:AV} {v:Value} (hc:Con E a v) {f:Nat} {r:AV} (h:eG_ P s a f=some r):
  Gives P B pr E w (Instr.field s v f) (r,H):=by
 unfold eG_ at h;split at h
 .rename_i fields hd;split at h
  .rename_i fl hfl;split at h;obtain ⟨vs,rfl,hL⟩:=hc;obtain ⟨u,hu,hcu⟩:=fV_ (w:=w) hL h;simp_all [Gives.still,Instr.field,run_underlying,asAgg]
   cases h
  cases h
 cases h
def fl_ (a:AV) (i:Nat):Option AV:=match a with
 | .tup cs=>match aj_ i cs with
   |c::_=>some c
   |[]=>none
 |_=>none
theorem j4_ (hr:Rel B pr E H w) {a:AV} {v:Value} (hc:Con E a v) {i:Nat} {r:AV} (h:fl_ a i=some r):
  Gives P B pr E w (Instr.extract v i) (r,H):=by
 unfold fl_ at h;split at h
 .rename_i cs;split at h
  .rename_i c r' hcs;cases h;obtain ⟨vs,rfl,hL⟩:=hc;rw [aA_]at hcs;have hx:cs[i]? =some r:=by
    have:(cs.drop i)[0]? =some r:=by rw [hcs];rfl
    grind
   obtain ⟨u,hu,hcu⟩:=hL.at i r hx;simp_all [Gives.still,Instr.extract]
  cases h
 cases h
end
end Go.Sx
