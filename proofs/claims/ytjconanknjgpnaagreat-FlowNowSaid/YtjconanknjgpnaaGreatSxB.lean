/-
  How the relation of an abstract heap to a world turns when a block is laid, written, moved or forgotten.
-/
import Derived.Test.YtjconanknjgpnaaGreatSxA
set_option linter.unusedVariables false
set_option linter.unusedSimpArgs false
namespace Go.Sx
theorem getElem?_lt_of_some {α:Type} {xs:Array α} {i:Nat} {x:α} (h:xs[i]? =some x):i<xs.size:=by
 rcases Nat.lt_or_ge i xs.size with h'|h'
 .exact h'
 .rw [Array.getElem?_eq_none h']at h;cases h
theorem aP_ {w:World} {o:Obj} {i:Nat} (h:i≠w.heap.size):(w.alloc o).heap[i]? =w.heap[i]? :=by
 simp only [World.alloc,Array.getElem?_push];rw [if_neg h]
theorem cy_ {w:World} {o:Obj}:(w.alloc o).heap[w.heap.size]? =some o:=by
 show (w.heap.push o)[w.heap.size]? =some o
 simp
theorem fG_ {w:World} {o:Obj} {a:Addr} {v:Value} (h:w.cell? a=some v):(w.alloc o).cell? a=some v:=by
 have:a.block≠w.heap.size:=by
  intro e
  have:w.heap[a.block]? =none:=by rw [e];simp
  simp [World.cell?,this]at h
 simpa [World.cell?,aP_ this]using h
theorem BlkAt.lt {E:Env} {w:World} {b o:Nat} {k:ABlk} (h:BlkAt E w b o k):b<w.heap.size:=by
 cases k with
 |cells cs=>obtain ⟨arr,t,h1,_⟩:=h;exact getElem?_lt_of_some h1
 |map es c=>obtain ⟨_,es',h1,_⟩:=h;exact getElem?_lt_of_some h1
 |syl j=>obtain ⟨_,_,_,_,_,arr,t,h1,_⟩:=h;exact getElem?_lt_of_some h1
 |fz cs=>obtain ⟨arr,t,fr,h1,_⟩:=h;exact getElem?_lt_of_some h1
 |mpl j=>obtain ⟨_,_,_,_,es',c,h1,_⟩:=h;exact getElem?_lt_of_some h1
def Env.bind (E:Env) (id b o:Nat):Env:={ E with φ:=λi=>if i=id then some (b,o)else E.φ i }
def Env.size (E:Env) (b n:Nat):Env:={ E with sz:=λi=>if i=b then some n else E.sz i }
theorem Env.le_bind {E:Env} {id b o:Nat} (h:E.φ id=none):E.le (E.bind id b o):=by
 refine ⟨⟨λi x hx=>?_,λ_ _ h=>h,λ_ _ _ h=>h,rfl,rfl⟩,rfl,rfl,rfl⟩
 have:i≠id:=λe=>by rw [e,h]at hx;cases hx
 simp [Env.bind,this,hx]
theorem Env.le_size {E:Env} {b n:Nat} (h:E.sz b=none):E.le (E.size b n):=by
 refine ⟨⟨λ_ _ h=>h,λi x hx=>?_,λ_ _ _ h=>h,rfl,rfl⟩,rfl,rfl,rfl⟩
 have:i≠b:=λe=>by rw [e,h]at hx;cases hx
 simp [Env.size,this,hx]
section
variable {B:World} {pr:Nat->Prop} {E:Env} {H:AHeap} {w:World}
theorem Rel.sz_new (h:Rel B pr E H w):E.sz w.heap.size=none:=by
 cases hs:E.sz w.heap.size with
 |none=>rfl
 |some n=>obtain ⟨arr,t,fr,h1,_⟩:=h.szs _ _ hs;simp at h1
theorem Rel.room (h:H.room=true):H.next<H.hi/\H.next<top/\H.hi<=top:=by
 simp only [AHeap.room,Bool.and_eq_true,Nat.blt_eq,Nat.ble_eq]at h
 omega
theorem Rel.resv_bind (h:Rel B pr E H w) (h1:H.next<H.hi) {b o:Nat} (id:Nat) (hi:E.res id):(E.bind H.next b o).φ id=none/\¬(Nat.succ H.next<=id/\id<H.hi):=by
 obtain ⟨q1,q2⟩:=h.resv id hi
 have hne:id≠H.next:=λe=>q2 ⟨by omega,by omega⟩
 exact ⟨by simp [Env.bind,hne,q1],λhx=>q2 ⟨Nat.le_of_lt hx.1,hx.2⟩⟩
theorem Rel.new_cells (h:Rel B pr E H w) (hr:H.room=true) {cs:List AV} {arr:Array Value} {t:TypeId} (hl:cs.length<=arr.size)
  (hc:∀(i:Nat) (a:AV),cs[i]? =some a->∃v,arr[i]? =some v/\Con E a v):
  E.le ((E.bind H.next w.heap.size 0).size w.heap.size arr.size)/\
  Rel B pr ((E.bind H.next w.heap.size 0).size w.heap.size arr.size) (H.push (.cells cs)) (w.alloc (.cells arr t)):=by
 obtain ⟨h1,h2,h3⟩:=Rel.room hr
 have hf:=h.fresh H.next (Nat.le_refl _) h1
 have hle:E.le ((E.bind H.next w.heap.size 0).size w.heap.size arr.size):=Env.le_trans (Env.le_bind hf) (Env.le_size (by exact h.sz_new))
 refine ⟨hle,?_⟩
 refine { own:=?_,ib:=h.ib,imm:=λb o v hi=>fG_ (h.imm b o v hi),fresh:=?_,resv:=h.resv_bind h1,vds:=h.vds,szs:=?_,prot:=?_,size:=?_,os:=h.os,output:=h.output }
 .obtain ⟨own,g1,g2,g3⟩:=h.own
  refine ⟨λb=>if b=w.heap.size then some H.next else own b,λid k hk=>?_,λb hb=>?_,λb o v hi=>?_⟩
  .by_cases hid:H.next=id
   .subst hid
    rw [AHeap.get_push_same H h2]at hk
    cases hk
    refine .inr ⟨w.heap.size,0,by simp [Env.bind,Env.size],by simp,arr,t,cy_,by simp [Env.size],by simpa using hl,λi a ha=>?_⟩
    obtain ⟨v,hv,hcv⟩:=hc i a ha
    exact ⟨v,by simpa using hv,hcv.mono hle⟩
   .rw [AHeap.get_push_ne H h2 hid]at hk
    refine (g1 id k hk).imp (λx hx=>hle.1.1 _ _ hx) (λh=>h) λb o hφ ho hb=>?_
    have hlt:=hb.lt
    have hne:b≠w.heap.size:=by omega
    exact ⟨by simp [hne,ho],hb.mono hle (aP_ hne)⟩
  .have:=(h.prot b hb).1
   have hs:=h.size
   have hne:b≠w.heap.size:=by omega
   simp [hne,g2 b hb]
  .have hcell:=h.imm b o v hi
   have hne:b≠w.heap.size:=by
    intro e;subst e;simp [World.cell?]at hcell
   simp [hne,g3 b o v hi]
 .intro id hid1 hid2
  have hne:id≠H.next:=by
   have:H.next<id:=hid1
   omega
  have:H.next<=id:=Nat.le_of_lt hid1
  simp only [Env.size,Env.bind,if_neg hne]
  exact h.fresh id this hid2
 .intro b n hn
  by_cases hb:b=w.heap.size
  .subst hb
   simp only [Env.size,if_pos]at hn
   cases hn
   exact ⟨arr,t,_,cy_,rfl⟩
  .simp only [Env.size,if_neg hb]at hn
   obtain ⟨arr',t',fr',g1,g2⟩:=h.szs b n hn
   exact ⟨arr',t',fr',(aP_ hb).trans g1,g2⟩
 .intro b hb
  obtain ⟨g1,g2⟩:=h.prot b hb
  have hs:=h.size
  exact ⟨g1,(aP_ (by omega)).trans g2⟩
 .have:=h.size;simp;omega
theorem Rel.set_cells (h:Rel B pr E H w) {id:Nat} {k:ABlk} (hk:H.get id=some k) {b o:Nat} (hφ:E.φ id=some (b,o))
  {arr:Array Value} {t:TypeId} (hg:w.heap[b]? =some (.cells arr t (0,0))) {arr':Array Value} (hsz:arr'.size=arr.size) {cs':List AV} (hl:o+cs'.length<=arr.size)
  (hc:∀(i:Nat) (a:AV),cs'[i]? =some a->∃v,arr'[o+i]? =some v/\Con E a v) (hnv:¬Void E k:=by exact λh=>h):
  Rel B pr E (H.set id (.cells cs')) (w.setRow b arr'):=by
 obtain ⟨own,g1,g2,g3⟩:=h.own
 obtain ⟨_,hvoid⟩|⟨b',o',hφ',hown,hb⟩:=g1 id k hk
 .exact absurd hvoid hnv
 rw [hφ]at hφ';cases hφ'
 have hidlt:=AHeap.get_lt hk
 have hnew:(w.setRow b arr').heap[b]? =some (.cells arr' t (0,0)):=setRow_heap w b arr arr' t (0,0) hg
 refine { own:=⟨own,λid' k' hk'=>?_,g2,g3⟩,ib:=h.ib,imm:=?_,fresh:=h.fresh,resv:=h.resv,vds:=h.vds,szs:=?_,prot:=?_,size:=by simpa using h.size,os:=h.os,output:=h.output }
 .by_cases hid:id=id'
  .subst hid
   rw [AHeap.get_set_same H hidlt]at hk'
   cases hk'
   refine .inr ⟨b,o,hφ,hown,arr',t,hnew,?_,by rw [hsz];exact hl,hc⟩
   rw [hsz]
   cases k with
   |cells cs=>
    obtain ⟨arr2,t2,e1,e2,_⟩:=hb
    rw [hg]at e1;cases e1;exact e2
   |map es c=>obtain ⟨_,es',e1,_⟩:=hb;rw [hg]at e1;cases e1
   |syl j=>obtain ⟨_,_,_,_,_,arr2,t2,e1,e2,_⟩:=hb;rw [hg]at e1;cases e1;exact e2
   |fz cs=>obtain ⟨arr2,t2,fr2,e1,e2,_⟩:=hb;rw [hg]at e1;cases e1;exact e2
   |mpl j=>obtain ⟨_,_,_,_,es',c,e1,_⟩:=hb;rw [hg]at e1;cases e1
  .rw [AHeap.get_set_ne H hidlt hid]at hk'
   refine (g1 id' k' hk').imp (λ_ h=>h) (λh=>h) λb2 o2 hφ2 hown2 hb2=>?_
   have hne:b2≠b:=by
    intro e;subst e;rw [hown]at hown2;cases hown2;exact hid rfl
   exact ⟨hown2,hb2.mono (Env.le_refl _) (setRow_other w b b2 arr' hne)⟩
 .intro b2 o2 v hi
  have hne:b2≠b:=by intro e;subst e;rw [g3 _ _ _ hi]at hown;cases hown
  rw [cell_setRow_other w b arr' _ hne]
  exact h.imm b2 o2 v hi
 .intro b2 n hn
  obtain ⟨arr2,t2,fr2,e1,e2⟩:=h.szs b2 n hn
  by_cases hb2:b2=b
  .subst hb2
   rw [hg]at e1;cases e1
   exact ⟨arr',t,_,hnew,by rw [hsz];exact e2⟩
  .exact ⟨arr2,t2,fr2,(setRow_other w b b2 arr' hb2).trans e1,e2⟩
 .intro b2 hb2
  have hne:b2≠b:=by intro e;subst e;rw [g2 _ hb2]at hown;cases hown
  exact ⟨(h.prot b2 hb2).1,(setRow_other w b b2 arr' hne).trans (h.prot b2 hb2).2⟩
theorem Rel.forget (h:Rel B pr E H w) {H':AHeap} (hsub:∀id k,H'.get id=some k->H.get id=some k) (hn:H.next<=H'.next) (hh:H'.hi<=H.hi):Rel B pr E H' w:=by
 obtain ⟨own,g1,g2⟩:=h.own
 exact { own:=⟨own,λid k hk=>g1 id k (hsub id k hk),g2⟩,ib:=h.ib,imm:=h.imm,fresh:=λid h1 h2=>h.fresh id (Nat.le_trans hn h1) (Nat.lt_of_lt_of_le h2 hh),resv:=λid hi=>⟨(h.resv id hi).1,λhx=>(h.resv id hi).2 ⟨Nat.le_trans hn hx.1,Nat.lt_of_lt_of_le hx.2 hh⟩⟩,vds:=h.vds,szs:=h.szs,prot:=h.prot,
         size:=h.size,os:=h.os,output:=h.output }
theorem Rel.erase (h:Rel B pr E H w) (id:Nat):Rel B pr E (H.erase id) w:=by
 refine h.forget (λid' k hk=>?_) (Nat.le_refl _) (Nat.le_refl _)
 by_cases he:id=id'
 .subst he;rw [AHeap.get_erase_same]at hk;cases hk
 .rwa [AHeap.get_erase_ne H he]at hk
theorem Rel.renew (h:Rel B pr E H w) (hr:H.room=true) {id:Nat} {k:ABlk} (hk:H.get id=some k) {b o:Nat} (hφ:E.φ id=some (b,o))
  {arr:Array Value} {t:TypeId} (hg:w.heap[b]? =some (.cells arr t (0,0))) {o':Nat} {cs':List AV} (hl:o'+cs'.length<=arr.size)
  (hc:∀(i:Nat) (a:AV),cs'[i]? =some a->∃v,arr[o'+i]? =some v/\Con E a v) (hnv:¬Void E k:=by exact λh=>h):
  E.le (E.bind H.next b o')/\Rel B pr (E.bind H.next b o') ((H.erase id).push (.cells cs')) w:=by
 obtain ⟨h1,h2,h3⟩:=Rel.room hr
 have hf:=h.fresh H.next (Nat.le_refl _) h1
 have hle:E.le (E.bind H.next b o'):=Env.le_bind hf
 refine ⟨hle,?_⟩
 have hid:=AHeap.get_lt hk
 obtain ⟨own,g1,g2,g3⟩:=h.own
 obtain ⟨_,hvoid⟩|⟨b',o2,hφ',hown,hb⟩:=g1 id k hk
 .exact absurd hvoid hnv
 rw [hφ]at hφ';cases hφ'
 have hsz:E.sz b=some arr.size:=by
  cases k with
  |cells cs=>
   obtain ⟨arr2,t2,e1,e2,_⟩:=hb
   rw [hg]at e1;cases e1;exact e2
  |map es c=>obtain ⟨_,es',e1,_⟩:=hb;rw [hg]at e1;cases e1
  |syl j=>obtain ⟨_,_,_,_,_,arr2,t2,e1,e2,_⟩:=hb;rw [hg]at e1;cases e1;exact e2
  |fz cs=>obtain ⟨arr2,t2,fr2,e1,e2,_⟩:=hb;rw [hg]at e1;cases e1;exact e2
  |mpl j=>obtain ⟨_,_,_,_,es',c,e1,_⟩:=hb;rw [hg]at e1;cases e1
 refine { own:=?_,ib:=h.ib,imm:=h.imm,fresh:=?_,resv:=h.resv_bind h1,vds:=h.vds,szs:=h.szs,prot:=h.prot,size:=h.size,os:=h.os,output:=h.output }
 .refine ⟨λx=>if x=b then some H.next else own x,λid' k' hk'=>?_,λx hx=>?_,λx y v hi=>?_⟩
  .by_cases hid':H.next=id'
   .subst hid'
    have e:((H.erase id).push (.cells cs')).get H.next=some (.cells cs'):=AHeap.get_push_same (H.erase id) h2 _
    rw [e]at hk';cases hk'
    refine .inr ⟨b,o',by simp [Env.bind],by simp,arr,t,hg,hsz,hl,λi a ha=>?_⟩
    obtain ⟨v,hv,hcv⟩:=hc i a ha
    exact ⟨v,hv,hcv.mono hle⟩
   .have e:((H.erase id).push (.cells cs')).get id'=(H.erase id).get id':=AHeap.get_push_ne (H.erase id) h2 hid' _
    rw [e]at hk'
    have hne:id≠id':=by intro e;subst e;rw [AHeap.get_erase_same]at hk';cases hk'
    rw [AHeap.get_erase_ne H hne]at hk'
    refine (g1 id' k' hk').imp (λx hx=>hle.1.1 _ _ hx) (λh=>h) λb3 o3 hφ3 hown3 hb3=>?_
    have hneb:b3≠b:=by intro e;subst e;rw [hown]at hown3;cases hown3;exact hne rfl
    exact ⟨by simp [hneb,hown3],hb3.mono hle rfl⟩
  .have hne:x≠b:=by intro e;subst e;rw [g2 _ hx]at hown;cases hown
   simp [hne,g2 x hx]
  .have hne:x≠b:=by intro e;subst e;rw [g3 _ _ _ hi]at hown;cases hown
   simp [hne,g3 x y v hi]
 .intro i hi1 hi2
  have hlt:H.next<i:=hi1
  have hne:i≠H.next:=by omega
  simp only [Env.bind,if_neg hne]
  exact h.fresh i (Nat.le_of_lt hlt) hi2
theorem Rel.moveF (h:Rel B pr E H w) (hr:H.room=true) {id:Nat} {k:ABlk} (hk:H.get id=some k) {b o:Nat} (hφ:E.φ id=some (b,o))
  {arr:Array Value} {t:TypeId} {fr:Nat×Nat} (hg:w.heap[b]? =some (.cells arr t fr)) (hs:E.sz b=some arr.size) {arr':Array Value} (hsz:arr'.size=arr.size) {o':Nat} {cs':List AV} (hl:o'+cs'.length<=arr.size) (hfr:fr.2<=o'+cs'.length)
  (hc:∀(i:Nat) (a:AV),cs'[i]? =some a->∃v,arr'[o'+i]? =some v/\Con E a v) (hnv:¬Void E k:=by exact λh=>h):
  E.le (E.bind H.next b o')/\Rel B pr (E.bind H.next b o') ((H.erase id).push (.fz cs')) (w.setRow b arr'):=by
 obtain ⟨h1,h2,h3⟩:=Rel.room hr
 have hf:=h.fresh H.next (Nat.le_refl _) h1
 have hle:E.le (E.bind H.next b o'):=Env.le_bind hf
 refine ⟨hle,?_⟩
 have hid:=AHeap.get_lt hk
 obtain ⟨own,g1,g2,g3⟩:=h.own
 obtain ⟨_,hvoid⟩|⟨b',o2,hφ',hown,hb⟩:=g1 id k hk
 .exact absurd hvoid hnv
 rw [hφ]at hφ';cases hφ'
 have hnew:(w.setRow b arr').heap[b]? =some (.cells arr' t fr):=setRow_heap w b arr arr' t fr hg
 have hpr:∀x,pr x->x≠b:=λx hx e=>by subst e;rw [g2 _ hx]at hown;cases hown
 have him:∀x y v,E.imm x y=some v->x≠b:=λx y v hx e=>by subst e;rw [g3 _ _ _ hx]at hown;cases hown
 refine { own:=?_,imm:=λx y v hi=>?_,ib:=h.ib,fresh:=?_,resv:=h.resv_bind h1,vds:=h.vds,szs:=λx n hn=>?_,prot:=λx hx=>?_,size:=by simpa using h.size,os:=h.os,output:=h.output }
 .refine ⟨λx=>if x=b then some H.next else own x,λid' k' hk'=>?_,λx hx=>?_,λx y v hi=>?_⟩
  .by_cases hid':H.next=id'
   .subst hid'
    have e:((H.erase id).push (.fz cs')).get H.next=some (.fz cs'):=AHeap.get_push_same (H.erase id) h2 _
    rw [e]at hk';cases hk'
    refine .inr ⟨b,o',by simp [Env.bind],by simp,arr',t,fr,hnew,by rw [hsz];exact hs,by rw [hsz];exact hl,hfr,λi a ha=>?_⟩
    obtain ⟨v,hv,hcv⟩:=hc i a ha
    exact ⟨v,hv,hcv.mono hle⟩
   .have e:((H.erase id).push (.fz cs')).get id'=(H.erase id).get id':=AHeap.get_push_ne (H.erase id) h2 hid' _
    rw [e]at hk'
    have hne:id≠id':=by intro e;subst e;rw [AHeap.get_erase_same]at hk';cases hk'
    rw [AHeap.get_erase_ne H hne]at hk'
    refine (g1 id' k' hk').imp (λx hx=>hle.1.1 _ _ hx) (λh=>h) λb3 o3 hφ3 hown3 hb3=>?_
    have hneb:b3≠b:=by intro e;subst e;rw [hown]at hown3;cases hown3;exact hne rfl
    exact ⟨by simp [hneb,hown3],hb3.mono hle (setRow_other w b b3 arr' hneb)⟩
  .simp [hpr x hx,g2 x hx]
  .simp [him x y v hi,g3 x y v hi]
 .rw [cell_setRow_other w b arr' _ (him x y v hi)]
  exact h.imm x y v hi
 .intro i hi1 hi2
  have hlt:H.next<i:=hi1
  have hne:i≠H.next:=by omega
  simp only [Env.bind,if_neg hne]
  exact h.fresh i (Nat.le_of_lt hlt) hi2
 .obtain ⟨arr2,t2,fr2,e1,e2⟩:=h.szs x n hn
  by_cases hxb:x=b
  .subst hxb
   rw [hg]at e1;cases e1
   exact ⟨arr',t,fr,hnew,by rw [hsz];exact e2⟩
  .exact ⟨arr2,t2,fr2,(setRow_other w b x arr' hxb).trans e1,e2⟩
 .exact ⟨(h.prot x hx).1,(setRow_other w b x arr' (hpr x hx)).trans (h.prot x hx).2⟩
theorem Rel.toF (h:Rel B pr E H w) {id:Nat} {cs:List AV} (hk:H.get id=some (.cells cs)):Rel B pr E (H.set id (.fz cs)) w:=by
 obtain ⟨own,g1,g2⟩:=h.own
 refine { own:=⟨own,λid' k' hk'=>?_,g2⟩,imm:=h.imm,ib:=h.ib,fresh:=h.fresh,resv:=h.resv,vds:=h.vds,szs:=h.szs,prot:=h.prot,size:=h.size,os:=h.os,output:=h.output }
 by_cases e:id=id'
 .subst e
  rw [AHeap.get_set_same H (AHeap.get_lt hk)]at hk'
  cases hk'
  obtain ⟨_,hvoid⟩|⟨b,o,h1,h2,arr,t,h3,h4,h5,h6⟩:=g1 id _ hk
  .exact hvoid.elim
  .exact .inr ⟨b,o,h1,h2,arr,t,(0,0),h3,h4,h5,Nat.zero_le _,h6⟩
 .rw [AHeap.get_set_ne H (AHeap.get_lt hk) e]at hk'
  exact g1 id' k' hk'
theorem Rel.new_map (h:Rel B pr E H w) (hr:H.room=true):
  E.le (E.bind H.next w.heap.size 0)/\Rel B pr (E.bind H.next w.heap.size 0) (H.push (.map [] 0)) (w.alloc (.map #[] 0)):=by
 obtain ⟨h1,h2,h3⟩:=Rel.room hr
 have hf:=h.fresh H.next (Nat.le_refl _) h1
 have hle:E.le (E.bind H.next w.heap.size 0):=Env.le_bind hf
 refine ⟨hle,?_⟩
 refine { own:=?_,ib:=h.ib,imm:=λb o v hi=>fG_ (h.imm b o v hi),fresh:=?_,resv:=h.resv_bind h1,vds:=h.vds,szs:=?_,prot:=?_,size:=?_,os:=h.os,output:=h.output }
 .obtain ⟨own,g1,g2,g3⟩:=h.own
  refine ⟨λb=>if b=w.heap.size then some H.next else own b,λid k hk=>?_,λb hb=>?_,λb o v hi=>?_⟩
  .by_cases hid:H.next=id
   .subst hid
    rw [AHeap.get_push_same H h2]at hk
    cases hk
    exact .inr ⟨w.heap.size,0,by simp [Env.bind],by simp,rfl,#[],cy_,by simp [ConE]⟩
   .rw [AHeap.get_push_ne H h2 hid]at hk
    refine (g1 id k hk).imp (λx hx=>hle.1.1 _ _ hx) (λh=>h) λb o hφ ho hb=>?_
    have hlt:=hb.lt
    have hne:b≠w.heap.size:=by omega
    exact ⟨by simp [hne,ho],hb.mono hle (aP_ hne)⟩
  .have:=(h.prot b hb).1
   have hs:=h.size
   have hne:b≠w.heap.size:=by omega
   simp [hne,g2 b hb]
  .have hcell:=h.imm b o v hi
   have hne:b≠w.heap.size:=by
    intro e;subst e;simp [World.cell?]at hcell
   simp [hne,g3 b o v hi]
 .intro id hid1 hid2
  have hlt:H.next<id:=hid1
  have hne:id≠H.next:=by omega
  simp only [Env.bind,if_neg hne]
  exact h.fresh id (Nat.le_of_lt hlt) hid2
 .intro b n hn
  obtain ⟨arr',t',fr',g1,g2⟩:=h.szs b n hn
  have hb:b≠w.heap.size:=by intro e;subst e;simp at g1
  exact ⟨arr',t',fr',(aP_ hb).trans g1,g2⟩
 .intro b hb
  obtain ⟨g1,g2⟩:=h.prot b hb
  have hs:=h.size
  exact ⟨g1,(aP_ (by omega)).trans g2⟩
 .have:=h.size;simp;omega
theorem Rel.set_map (h:Rel B pr E H w) {id:Nat} {es0:List (AV×AV×Nat)} {c0:Nat} (hk:H.get id=some (.map es0 c0)) {b o:Nat} (hφ:E.φ id=some (b,o))
  {es:List (AV×AV×Nat)} {c:Nat} {es':Array MapEntry} (hc:ConE E es es'.toList):
  Rel B pr E (H.set id (.map es c)) { w with heap:=w.heap.setIfInBounds b (.map es' c) }:=by
 obtain ⟨own,g1,g2,g3⟩:=h.own
 obtain ⟨_,hvoid⟩|⟨b',o',hφ',hown,hb⟩:=g1 id _ hk
 .exact hvoid.elim
 rw [hφ]at hφ';cases hφ'
 have hidlt:=AHeap.get_lt hk
 obtain ⟨ho0,es1,hg,_⟩:=hb
 have hblt:=getElem?_lt_of_some hg
 have hother:∀j,j≠b->(w.heap.setIfInBounds b (.map es' c))[j]? =w.heap[j]? :=λj hj=>by
  rw [Array.getElem?_setIfInBounds];rw [if_neg (λe=>hj e.symm)]
 have hsame:(w.heap.setIfInBounds b (.map es' c))[b]? =some (.map es' c):=by
  rw [Array.getElem?_setIfInBounds];simp [hblt]
 refine { own:=⟨own,λid' k' hk'=>?_,g2,g3⟩,ib:=h.ib,imm:=?_,fresh:=h.fresh,resv:=h.resv,vds:=h.vds,szs:=?_,prot:=?_,size:=by simpa using h.size,os:=h.os,output:=h.output }
 .by_cases hid:id=id'
  .subst hid
   rw [AHeap.get_set_same H hidlt]at hk'
   cases hk'
   exact .inr ⟨b,o,hφ,hown,ho0,es',hsame,hc⟩
  .rw [AHeap.get_set_ne H hidlt hid]at hk'
   refine (g1 id' k' hk').imp (λ_ h=>h) (λh=>h) λb2 o2 hφ2 hown2 hb2=>?_
   have hne:b2≠b:=by
    intro e;subst e;rw [hown]at hown2;cases hown2;exact hid rfl
   exact ⟨hown2,hb2.mono (Env.le_refl _) (hother b2 hne)⟩
 .intro b2 o2 v hi
  have hne:b2≠b:=by intro e;subst e;rw [g3 _ _ _ hi]at hown;cases hown
  have:=h.imm b2 o2 v hi
  unfold World.cell? at this⊢
  simpa only [hother b2 hne]using this
 .intro b2 n hn
  obtain ⟨arr2,t2,fr2,e1,e2⟩:=h.szs b2 n hn
  have hb2:b2≠b:=by intro e;subst e;rw [hg]at e1;cases e1
  exact ⟨arr2,t2,fr2,(hother b2 hb2).trans e1,e2⟩
 .intro b2 hb2
  have hne:b2≠b:=by intro e;subst e;rw [g2 _ hb2]at hown;cases hown
  exact ⟨(h.prot b2 hb2).1,(hother b2 hne).trans (h.prot b2 hb2).2⟩
end
end Go.Sx
