/-
  Readings: symbols are put in, values that are known to the end, states that are known in another way.
-/
import Derived.Test.YtelnbodnjmldeaaGreatSxX
import Derived.Laws.Externs
import Derived.Lib.IndexEntry
set_option linter.unusedVariables false
set_option linter.unusedSimpArgs false
open List renaming mem_cons_self→za',mem_cons_of_mem→zb'
open Nat renaming eq_of_beq_eq_true→zc',beq_refl→zd',le_refl→ze',lt_of_lt_of_le→zf'
namespace Go.Sx
mutual
def den (s:Nat->Option AV):AV->AV
 | .sym i=>match s i with
   |some a=>a
   |none=>.opq
 | .vptr cs=>.vptr (ab_ s cs)
 | .vsl n z cs=>.vsl n z (ab_ s cs)
 | .fn f cs=>.fn f (ab_ s cs)
 | .iface t a=>.iface t (den s a)
 | .agg cs=>.agg (ab_ s cs)
 | .tup cs=>.tup (ab_ s cs)
 |a=>a
def ab_ (s:Nat->Option AV):List AV->List AV
 |[]=>[]
 |a::r=>den s a::ab_ s r
end
mutual
def ae_:AV->Bool
 | .opq| .ptr _ _| .sl _ _ _ _ _| .map _| .slx _ _ _| .ptx _ _ _ _=>false
 | .vptr cs=>ad_ cs
 | .vsl _ _ cs=>ad_ cs
 | .fn _ cs=>ad_ cs
 | .iface _ a=>ae_ a
 | .agg cs=>ad_ cs
 | .tup cs=>ad_ cs
 |_=>true
def ad_:List AV->Bool
 |[]=>true
 |a::r=>match ae_ a with
  |true=>ad_ r
  |false=>false
end
mutual
def okC:AV->Bool
 | .bool _| .int _ _| .flt _ _| .nan _| .str _| .nptr| .nsl| .nmap| .nfn| .nif=>true
 | .vptr cs=>okL cs
 | .vsl _ _ cs=>okL cs
 | .fn _ cs=>okL cs
 | .iface _ a=>okI a
 |_=>false
def okI:AV->Bool
 | .agg cs=>okL cs
 | .bool _| .int _ _| .flt _ _| .nan _| .str _| .nptr| .nsl| .nmap| .nfn| .nif=>true
 | .vptr cs=>okL cs
 | .vsl _ _ cs=>okL cs
 | .fn _ cs=>okL cs
 | .iface _ a=>okI a
 |_=>false
def okL:List AV->Bool
 |[]=>true
 |a::r=>match okC a with
  |true=>okL r
  |false=>false
end
theorem aY_ {a:AV} {r:List AV}:okL (a::r)=(okC a&&okL r):=by
 grind [okL]
theorem bo_ {a:AV} (h:okC a=true):a.one=true:=by cases a<;>first|rfl|(simp [okC]at h)
mutual
theorem an_ {E:Env}:∀{a:AV} {v:Value},ae_ a=true->Con E a v->Con0 E (den E.sy a) v
 | .opq,_,h,_=>by simp [ae_]at h
 | .bool _,_,_,hc=>by grind [den,Con0,Con]
 | .int _ _,_,_,hc=>by grind [den,Con0,Con]
 | .flt _ _,_,_,hc=>by grind [den,Con0,Con]
 | .nan _,_,_,hc=>by grind [den,Con0,Con]
 | .str _,_,_,hc=>by grind [den,Con0,Con]
 | .nptr,_,_,hc=>by grind [den,Con0,Con]
 | .ptr id off,v,h,hc=>by simp [ae_]at h
 | .vptr cs,v,h,hc=>by simp only [ae_]at h;simp only [Con]at hc;simp only [den,Con0];obtain ⟨b,o,vs,h1,h2,h3⟩:=hc;exact ⟨b,o,vs,h1,bJ_ h h2,h3⟩
 | .nsl,_,_,hc=>by grind [den,Con0,Con]
 | .sl ..,v,h,hc=>by simp [ae_]at h
 | .vsl _ _ cs,v,h,hc=>by obtain ⟨b,o,vs,c,h1,h2,h3,h4⟩:=hc;exact ⟨b,o,vs,c,h1,h2,bJ_ h h3,h4⟩
 | .nmap,_,_,hc=>by grind [den,Con0,Con]
 | .map id,v,h,hc=>by simp [ae_]at h
 | .nfn,_,_,hc=>by grind [den,Con0,Con]
 | .fn f cap,v,h,hc=>by simp only [ae_]at h;simp only [Con]at hc;simp only [den,Con0];obtain ⟨vs,h1,h2⟩:=hc;exact ⟨vs,h1,bJ_ h h2⟩
 | .nif,_,_,hc=>by grind [den,Con0,Con]
 | .iface t a,v,h,hc=>by simp only [ae_]at h;simp only [Con]at hc;simp only [den,Con0];obtain ⟨u,h1,h2⟩:=hc;exact ⟨u,h1,an_ h h2⟩
 | .agg cs,v,h,hc=>by simp only [ae_]at h;simp only [Con]at hc;simp only [den,Con0];obtain ⟨vs,h1,h2⟩:=hc;exact ⟨vs,h1,bJ_ h h2⟩
 | .tup cs,v,h,hc=>by simp only [ae_]at h;simp only [Con]at hc;simp only [den,Con0];obtain ⟨vs,h1,h2⟩:=hc;exact ⟨vs,h1,bJ_ h h2⟩
 | .sym i,v,h,hc=>by
   grind [Con,den]
 | .slx ..,v,h,hc=>by simp [ae_]at h
 | .ptx ..,v,h,hc=>by simp [ae_]at h
theorem bJ_ {E:Env}:∀{as:List AV} {vs:List Value},ad_ as=true->ConL E as vs->Con0L E (ab_ E.sy as) vs
 |[],_,_,hc=>by grind [ab_,ConL,Con0L]
 |a::as,vs,h,hc=>by
  simp only [ad_]at h;simp only [ConL]at hc;simp only [ab_,Con0L];obtain ⟨v,r,h1,h2,h3⟩:=hc;cases ha:ae_ a with
  |true=>rw [ha]at h;exact ⟨v,r,h1,an_ ha h2,bJ_ h h3⟩
  |false=>rw [ha]at h;cases h
end
mutual
theorem ox_ {E:Env} (ho:∀i a,E.sy i=some a->a.one=true):∀{a:AV} {v:Value},ae_ a=true->Con0 E (den E.sy a) v->Con E a v
 | .opq,_,h,_=>by simp [ae_]at h
 | .bool _,_,_,hc=>by grind [den,Con0,Con]
 | .int _ _,_,_,hc=>by grind [den,Con0,Con]
 | .flt _ _,_,_,hc=>by grind [den,Con0,Con]
 | .nan _,_,_,hc=>by grind [den,Con0,Con]
 | .str _,_,_,hc=>by grind [den,Con0,Con]
 | .nptr,_,_,hc=>by grind [den,Con0,Con]
 | .ptr id off,v,h,hc=>by simp [ae_]at h
 | .vptr cs,v,h,hc=>by simp only [ae_]at h;simp only [den,Con0]at hc;simp only [Con];obtain ⟨b,o,vs,h1,h2,h3⟩:=hc;exact ⟨b,o,vs,h1,c5_ ho h h2,h3⟩
 | .nsl,_,_,hc=>by grind [den,Con0,Con]
 | .sl ..,v,h,hc=>by simp [ae_]at h
 | .vsl _ _ cs,v,h,hc=>by obtain ⟨b,o,vs,c,h1,h2,h3,h4⟩:=hc;exact ⟨b,o,vs,c,h1,h2,c5_ ho h h3,h4⟩
 | .nmap,_,_,hc=>by grind [den,Con0,Con]
 | .map id,v,h,hc=>by simp [ae_]at h
 | .nfn,_,_,hc=>by grind [den,Con0,Con]
 | .fn f cap,v,h,hc=>by simp only [ae_]at h;simp only [den,Con0]at hc;simp only [Con];obtain ⟨vs,h1,h2⟩:=hc;exact ⟨vs,h1,c5_ ho h h2⟩
 | .nif,_,_,hc=>by grind [den,Con0,Con]
 | .iface t a,v,h,hc=>by simp only [ae_]at h;simp only [den,Con0]at hc;simp only [Con];obtain ⟨u,h1,h2⟩:=hc;exact ⟨u,h1,ox_ ho h h2⟩
 | .agg cs,v,h,hc=>by simp only [ae_]at h;simp only [den,Con0]at hc;simp only [Con];obtain ⟨vs,h1,h2⟩:=hc;exact ⟨vs,h1,c5_ ho h h2⟩
 | .tup cs,v,h,hc=>by simp only [ae_]at h;simp only [den,Con0]at hc;simp only [Con];obtain ⟨vs,h1,h2⟩:=hc;exact ⟨vs,h1,c5_ ho h h2⟩
 | .sym i,v,h,hc=>by
   grind [den,Con,Con0]
 | .slx ..,v,h,hc=>by simp [ae_]at h
 | .ptx ..,v,h,hc=>by simp [ae_]at h
theorem c5_ {E:Env} (ho:∀i a,E.sy i=some a->a.one=true):∀{as:List AV} {vs:List Value},ad_ as=true->Con0L E (ab_ E.sy as) vs->ConL E as vs
 |[],_,_,hc=>by grind [ab_,ConL,Con0L]
 |a::as,vs,h,hc=>by
  simp only [ad_]at h;simp only [ab_,Con0L]at hc;simp only [ConL];obtain ⟨v,r,h1,h2,h3⟩:=hc;cases ha:ae_ a with
  |true=>rw [ha]at h;exact ⟨v,r,h1,ox_ ho ha h2,c5_ ho h h3⟩
  |false=>rw [ha]at h;cases h
end
mutual
theorem bS_ {E:Env}:∀{a:AV} {v:Value},okC a=true->Con E a v->Con0 E a v
 | .opq,_,h,_=>by simp [okC]at h
 | .bool _,_,_,hc=>by grind [Con0,Con]
 | .int _ _,_,_,hc=>by grind [Con0,Con]
 | .flt _ _,_,_,hc=>by grind [Con0,Con]
 | .nan _,_,_,hc=>by grind [Con0,Con]
 | .str _,_,_,hc=>by grind [Con0,Con]
 | .nptr,_,_,hc=>by grind [Con0,Con]
 | .ptr _ _,_,h,_=>by simp [okC]at h
 | .vptr cs,v,h,hc=>by simp only [okC]at h;simp only [Con]at hc;simp only [Con0];obtain ⟨b,o,vs,h1,h2,h3⟩:=hc;exact ⟨b,o,vs,h1,bt_ h h2,h3⟩
 | .nsl,_,_,hc=>by grind [Con0,Con]
 | .sl ..,_,h,_=>by simp [okC]at h
 | .vsl _ _ cs,v,h,hc=>by obtain ⟨b,o,vs,c,h1,h2,h3,h4⟩:=hc;exact ⟨b,o,vs,c,h1,h2,bt_ h h3,h4⟩
 | .nmap,_,_,hc=>by grind [Con0,Con]
 | .map _,_,h,_=>by simp [okC]at h
 | .nfn,_,_,hc=>by grind [Con0,Con]
 | .fn f cap,v,h,hc=>by simp only [okC]at h;simp only [Con]at hc;simp only [Con0];obtain ⟨vs,h1,h2⟩:=hc;exact ⟨vs,h1,bt_ h h2⟩
 | .nif,_,_,hc=>by grind [Con0,Con]
 | .iface t a,v,h,hc=>by simp only [okC]at h;simp only [Con]at hc;simp only [Con0];obtain ⟨u,h1,h2⟩:=hc;exact ⟨u,h1,iZ_ h h2⟩
 | .agg _,_,h,_=>by simp [okC]at h
 | .tup _,_,h,_=>by simp [okC]at h
 | .sym _,_,h,_=>by simp [okC]at h
 | .slx ..,_,h,_=>by simp [okC]at h
 | .ptx ..,_,h,_=>by simp [okC]at h
theorem iZ_ {E:Env}:∀{a:AV} {v:Value},okI a=true->Con E a v->Con0 E a v
 | .opq,_,h,_=>by simp [okI]at h
 | .bool _,_,_,hc=>by grind [Con0,Con]
 | .int _ _,_,_,hc=>by grind [Con0,Con]
 | .flt _ _,_,_,hc=>by grind [Con0,Con]
 | .nan _,_,_,hc=>by grind [Con0,Con]
 | .str _,_,_,hc=>by grind [Con0,Con]
 | .nptr,_,_,hc=>by grind [Con0,Con]
 | .ptr _ _,_,h,_=>by simp [okI]at h
 | .vptr cs,v,h,hc=>by simp only [okI]at h;simp only [Con]at hc;simp only [Con0];obtain ⟨b,o,vs,h1,h2,h3⟩:=hc;exact ⟨b,o,vs,h1,bt_ h h2,h3⟩
 | .nsl,_,_,hc=>by grind [Con0,Con]
 | .sl ..,_,h,_=>by simp [okI]at h
 | .vsl _ _ cs,v,h,hc=>by obtain ⟨b,o,vs,c,h1,h2,h3,h4⟩:=hc;exact ⟨b,o,vs,c,h1,h2,bt_ h h3,h4⟩
 | .nmap,_,_,hc=>by grind [Con0,Con]
 | .map _,_,h,_=>by simp [okI]at h
 | .nfn,_,_,hc=>by grind [Con0,Con]
 | .fn f cap,v,h,hc=>by simp only [okI]at h;simp only [Con]at hc;simp only [Con0];obtain ⟨vs,h1,h2⟩:=hc;exact ⟨vs,h1,bt_ h h2⟩
 | .nif,_,_,hc=>by grind [Con0,Con]
 | .iface t a,v,h,hc=>by simp only [okI]at h;simp only [Con]at hc;simp only [Con0];obtain ⟨u,h1,h2⟩:=hc;exact ⟨u,h1,iZ_ h h2⟩
 | .agg cs,v,h,hc=>by simp only [okI]at h;simp only [Con]at hc;simp only [Con0];obtain ⟨vs,h1,h2⟩:=hc;exact ⟨vs,h1,bt_ h h2⟩
 | .tup _,_,h,_=>by simp [okI]at h
 | .sym _,_,h,_=>by simp [okI]at h
 | .slx ..,_,h,_=>by simp [okI]at h
 | .ptx ..,_,h,_=>by simp [okI]at h
theorem bt_ {E:Env}:∀{as:List AV} {vs:List Value},okL as=true->ConL E as vs->Con0L E as vs
 |[],_,_,hc=>by grind [Con0L,ConL]
 |a::as,vs,h,hc=>by rw [aY_]at h;obtain ⟨h1,h2⟩:=aa_ h;simp only [ConL]at hc;simp only [Con0L];obtain ⟨v,r,e,c1,c2⟩:=hc;exact ⟨v,r,e,bS_ h1 c1,bt_ h2 c2⟩
end
def Env.with (E:Env) (Y:Sy):Env:={ E with sy:=Y.v,syl:=Y.l }
theorem Con0.with {E:Env} {Y:Sy} {a:AV} {v:Value} (h:Con0 E a v):Con0 (E.with Y) a v:=b7_ (E:=E) (E':=E.with Y) (λ_ _ _ h=>h) h
mutual
theorem Con.with {E:Env} {Y:Sy} (hv:∀i a,E.sy i=some a->Y.v i=some a) (hl:∀i l,E.syl i=some l->Y.l i=some l):∀{a:AV} {v:Value},Con E a v->Con (E.with Y) a v
 | .opq,_,_=>by simp [Con]
 | .bool _,_,hc=>by grind [Con]
 | .int _ _,_,hc=>by grind [Con]
 | .flt _ _,_,hc=>by grind [Con]
 | .nan _,_,hc=>by grind [Con]
 | .str _,_,hc=>by grind [Con]
 | .nptr,_,hc=>by grind [Con]
 | .ptr id off,v,hc=>by simpa [Con,Env.with]using hc
 | .vptr cs,v,hc=>by obtain ⟨b,o,vs,h1,h2,h3⟩:=hc;exact ⟨b,o,vs,h1,ConL.with hv hl h2,h3⟩
 | .nsl,_,hc=>by grind [Con]
 | .sl ..,v,hc=>by simpa [Con,Env.with]using hc
 | .vsl ..,v,hc=>by obtain ⟨b,o,vs,c,h1,h2,h3,h4⟩:=hc;exact ⟨b,o,vs,c,h1,h2,ConL.with hv hl h3,h4⟩
 | .nmap,_,hc=>by grind [Con]
 | .map id,v,hc=>by simpa [Con,Env.with]using hc
 | .nfn,_,hc=>by grind [Con]
 | .fn f cap,v,hc=>by simp only [Con]at hc⊢;obtain ⟨vs,h1,h2⟩:=hc;exact ⟨vs,h1,ConL.with hv hl h2⟩
 | .nif,_,hc=>by grind [Con]
 | .iface t a,v,hc=>by simp only [Con]at hc⊢;obtain ⟨u,h1,h2⟩:=hc;exact ⟨u,h1,Con.with hv hl h2⟩
 | .agg cs,v,hc=>by simp only [Con]at hc⊢;obtain ⟨vs,h1,h2⟩:=hc;exact ⟨vs,h1,ConL.with hv hl h2⟩
 | .tup cs,v,hc=>by simp only [Con]at hc⊢;obtain ⟨vs,h1,h2⟩:=hc;exact ⟨vs,h1,ConL.with hv hl h2⟩
 | .sym i,v,hc=>by obtain ⟨a,h1,h2,h3⟩:=hc;exact ⟨a,hv _ _ h1,h2,h3.with⟩
 | .slx id sz i,v,hc=>by obtain ⟨a,h1,h2⟩:=hc;exact ⟨a,hv _ _ h1,h2⟩
 | .ptx id j sz off,v,hc=>by obtain ⟨k,n,h1,h2⟩:=hc;exact ⟨k,n,hv _ _ h1,h2⟩
theorem ConL.with {E:Env} {Y:Sy} (hv:∀i a,E.sy i=some a->Y.v i=some a) (hl:∀i l,E.syl i=some l->Y.l i=some l):∀{as:List AV} {vs:List Value},ConL E as vs->ConL (E.with Y) as vs
 |[],_,hc=>by grind [ConL]
 |a::as,vs,hc=>by simp only [ConL]at hc⊢;obtain ⟨v,r,h1,h2,h3⟩:=hc;exact ⟨v,r,h1,Con.with hv hl h2,ConL.with hv hl h3⟩
end
theorem ConE.with {E:Env} {Y:Sy} (hv:∀i a,E.sy i=some a->Y.v i=some a) (hl:∀i l,E.syl i=some l->Y.l i=some l):∀{as:List (AV×AV×Nat)} {es:List MapEntry},ConE E as es->ConE (E.with Y) as es
 |[],_,hc=>hc
 |(k,v,n)::as,es,hc=>by simp only [ConE]at hc⊢;obtain ⟨e,r,h1,h2,h3,h4,h5⟩:=hc;exact ⟨e,r,h1,h2.with hv hl,h3.with hv hl,h4,ConE.with hv hl h5⟩
theorem RowAt.withS {E:Env} {w:World} {own:Nat->Option Nat} {id:Nat} {k:ABlk} (h:RowAt E w own id k) {Y:Sy} (hv:∀i a,E.sy i=some a->Y.v i=some a) (hl:∀i l,E.syl i=some l->Y.l i=some l):RowAt (E.with Y) w own id k:=by
 refine h.imp (λ_ h=>h) (λh=>⟨h.1,h.2.sub λi hi=>hv i _ hi⟩) λb o h1 h2 h3=>⟨h2,?_⟩;cases k with
 |cells cs=>obtain ⟨arr,t,e1,e2,e3,e4⟩:=h3;refine ⟨arr,t,e1,e2,e3,λi a ha=>?_⟩;obtain ⟨v,hv',hc⟩:=e4 i a ha;exact ⟨v,hv',hc.with hv hl⟩
 |map es c=>obtain ⟨h0,es',e1,e2⟩:=h3;exact ⟨h0,es',e1,e2.with hv hl⟩
 |syl j=>obtain ⟨len,sz,cs,h0,hlen,arr,t,e1,e2,e3,e4⟩:=h3;refine ⟨len,sz,cs,hv _ _ h0,hlen,arr,t,e1,e2,e3,λi a ha=>?_⟩;obtain ⟨v,hv',ho,hc⟩:=e4 i a ha;exact ⟨v,hv',ho,hc.with⟩
 |fz cs=>obtain ⟨arr,t,fr,e1,e2,e3,e5,e4⟩:=h3;refine ⟨arr,t,fr,e1,e2,e3,e5,λi a ha=>?_⟩;obtain ⟨v,hv',hc⟩:=e4 i a ha;exact ⟨v,hv',hc.with hv hl⟩
 |mpl j=>obtain ⟨h0,n,cs,e1,es',clock,e2,e3,e4⟩:=h3;exact ⟨h0,n,cs,hv _ _ e1,es',clock,e2,e3,e4.imp λ_ _ hc=>hc.with⟩
theorem Rel.with {B:World} {pr:Nat->Prop} {E:Env} {H:AHeap} {w:World} (h:Rel B pr E H w) {Y:Sy} (hv:∀i a,E.sy i=some a->Y.v i=some a) (hl:∀i l,E.syl i=some l->Y.l i=some l):
  Rel B pr (E.with Y) H w:=by
 obtain ⟨own,g1,g2,g3⟩:=h.own;refine { own:=⟨own,λid k hk=>?_,g2,g3⟩,imm:=h.imm,ib:=h.ib,fresh:=h.fresh,resv:=h.resv,vds:=h.vds,szs:=h.szs,prot:=h.prot,size:=h.size,os:=h.os,output:=h.output };exact (g1 id k hk).withS hv hl
theorem Env.with_leF (k:Nat) {E:Env} {Y:Sy} (hv:∀i,i<64->Y.v i=E.sy i):E.leF k (E.with Y):=⟨λ_ _ _ h=>h,λ_ _ h=>h,λ_ _ _ h=>h,rfl,hv⟩
section
variable [Gl]
theorem GlOk.leF {k:Nat} {E E':Env} (h:GlOk E) (hle:E.leF k E'):GlOk E':=
 ⟨λg=>co_ hle.imm (λi a hi hx=>(hle.sy i hi).trans hx) (Gl.nr g) (h.1 g),Gl.gtm _ _ hle.sy h.2⟩
omit [Gl]in
theorem DRel.with {P:Program} {E:Env} {Y:Sy} (hv:∀i a,E.sy i=some a->Y.v i=some a) (hl:∀i l,E.syl i=some l->Y.l i=some l):∀{D:Dfs} {ds:List Deferred},DRel P E D ds->DRel P (E.with Y) D ds
 |[],ds,hd=>hd
 |(f,args)::D,ds,hd=>by obtain ⟨vs,r,h1,h2,h3,h4⟩:=hd;exact ⟨vs,r,h1,h2.with hv hl,h3,h4.with hv hl⟩
theorem St.with {P:Program} {B:World} {pr:Nat->Prop} {N:Nat} {E:Env} {T:Tm} {H:AHeap} {D:Dfs} {a:Act} {w:World} (st:St P B pr N E T H D a w) {Y:Sy}
  (hv:∀i a,E.sy i=some a->Y.v i=some a) (hl:∀i l,E.syl i=some l->Y.l i=some l) (hlo:∀i,i<64->Y.v i=E.sy i):St P B pr N (E.with Y) T H D a w:=
 ⟨⟨st.t.size,st.t.le,λt ht=>(st.t.con t ht).with hv hl,st.t.gl.leF (Env.with_leF 0 hlo)⟩,st.r.with hv hl,st.d.with hv hl⟩
end
def Sy.put (Y:Sy) (n:Nat) (a:AV):Sy:={ Y with v:=λi=>if i=n then some a else Y.v i }
def Sy.puts (Y:Sy):Nat->List AV->Sy
 |_,[]=>Y
 |n,a::r=>(Y.put n a).puts (n+1) r
theorem Sy.put_same (Y:Sy) (n:Nat) (a:AV):(Y.put n a).v n=some a:=by simp [Sy.put]
theorem Sy.put_ne (Y:Sy) {n i:Nat} (a:AV) (h:i≠n):(Y.put n a).v i=Y.v i:=by simp [Sy.put,h]
def Fresh (Y:Sy) (n:Nat):Prop:=64<=n/\∀i,n<=i->Y.v i=none
theorem Fresh.put {Y:Sy} {n:Nat} (h:Fresh Y n) (a:AV):Fresh (Y.put n a) (n+1):=⟨by have:=h.1;omega,λi hi=>by rw [Sy.put_ne _ _ (by omega)];exact h.2 i (by omega)⟩
theorem Fresh.low {Y:Sy} {n:Nat} (h:Fresh Y n) (a:AV) (i:Nat) (hi:i<64):(Y.put n a).v i=Y.v i:=Sy.put_ne _ _ (by have:=h.1;omega)
theorem Fresh.sub_put {Y:Sy} {n:Nat} (h:Fresh Y n) (a:AV):∀i x,Y.v i=some x->(Y.put n a).v i=some x:=λi x hx=>by
 have:i≠n:=λe=>by rw [e,h.2 n (Nat.le_refl _)]at hx;cases hx
 grind [Sy.put_ne]
theorem Fresh.puts:∀{Y:Sy} {n:Nat} (l:List AV),Fresh Y n->Fresh (Y.puts n l) (n+l.length)/\(∀i x,Y.v i=some x->(Y.puts n l).v i=some x)/\(Y.puts n l).l=Y.l/\∀i,i<64->(Y.puts n l).v i=Y.v i
 |Y,n,[],h=>⟨by simpa [Sy.puts]using h,λ_ _ h=>h,rfl,λ_ _=>rfl⟩
 |Y,n,a::r,h=>by obtain ⟨h1,h2,h3,h4⟩:=Fresh.puts (Y:=Y.put n a) (n:=n+1) r (h.put a);refine ⟨?_,λi x hx=>h2 i x (h.sub_put a i x hx),h3,λi hi=>(h4 i hi).trans (h.low a i hi)⟩;have:n+(a::r).length=n+1+r.length:=(by simp;omega);rw [this];exact h1
def ak_:Nat->Nat->List AV
 |_,0=>[]
 |n,m+1=>.sym n::ak_ (Nat.succ n) m
theorem bF_:∀{Y:Sy} {n:Nat} (l:List AV),Fresh Y n->∀i a,l[i]? =some a->(Y.puts n l).v (n+i)=some a
 |Y,n,[],h,i,a,ha=>by simp at ha
 |Y,n,b::r,h,i,a,ha=>by
  show ((Y.put n b).puts (n+1) r).v (n+i)=some a;cases i with
  |zero=>simp only [List.getElem?_cons_zero]at ha;cases ha;exact (Fresh.puts (Y:=Y.put n b) (n:=n+1) r (h.put b)).2.1 n b (Sy.put_same _ _ _)
  |succ i=>simp only [List.getElem?_cons_succ]at ha;have:=bF_ (Y:=Y.put n b) (n:=n+1) r (h.put b) i a ha;rw [show n+(i+1)=n+1+i by omega];exact this
theorem bM_ {E:Env}:∀(n:Nat) (l:List AV) (vs:List Value),okL l=true->(∀i a,l[i]? =some a->E.sy (n+i)=some a)->Con0L E l vs->ConL E (ak_ n l.length) vs
 |n,[],vs,_,_,hc=>by grind [ak_,ConL,Con0L]
 |n,a::r,vs,hk,hs,hc=>by
  rw [aY_]at hk;obtain ⟨k1,k2⟩:=aa_ hk;obtain ⟨v,q,rfl,h1,h2⟩:=hc;refine ⟨v,q,rfl,?_,bM_ (n+1) r q k2 (λi b hb=>?_) h2⟩;exact ⟨a,by simpa using hs 0 a rfl,bo_ k1,h1⟩
  .have:=hs (i+1) b (by grind)
   grind
mutual
theorem hZ_ (s:Nat->Option AV):∀{a:AV},okC a=true->den s a=a
 | .bool _,_=>rfl
 | .int _ _,_=>rfl
 | .flt _ _,_=>rfl
 | .nan _,_=>rfl
 | .str _,_=>rfl
 | .nptr,_=>rfl
 | .nsl,_=>rfl
 | .nmap,_=>rfl
 | .nfn,_=>rfl
 | .nif,_=>rfl
 | .vptr cs,h=>by simp only [okC]at h;simp only [den];rw [a1_ s h]
 | .vsl _ _ cs,h=>by simp only [okC]at h;simp only [den];rw [a1_ s h]
 | .fn _ cs,h=>by simp only [okC]at h;simp only [den];rw [a1_ s h]
 | .iface _ a,h=>by simp only [okC]at h;simp only [den];rw [oy_ s h]
 | .opq,h=>by simp [okC]at h
 | .ptr ..,h=>by simp [okC]at h
 | .sl ..,h=>by simp [okC]at h
 | .map ..,h=>by simp [okC]at h
 | .agg ..,h=>by simp [okC]at h
 | .tup ..,h=>by simp [okC]at h
 | .sym ..,h=>by simp [okC]at h
 | .slx ..,h=>by simp [okC]at h
 | .ptx ..,h=>by simp [okC]at h
theorem oy_ (s:Nat->Option AV):∀{a:AV},okI a=true->den s a=a
 | .bool _,_=>rfl
 | .int _ _,_=>rfl
 | .flt _ _,_=>rfl
 | .nan _,_=>rfl
 | .str _,_=>rfl
 | .nptr,_=>rfl
 | .nsl,_=>rfl
 | .nmap,_=>rfl
 | .nfn,_=>rfl
 | .nif,_=>rfl
 | .vptr cs,h=>by simp only [okI]at h;simp only [den];rw [a1_ s h]
 | .vsl _ _ cs,h=>by simp only [okI]at h;simp only [den];rw [a1_ s h]
 | .fn _ cs,h=>by simp only [okI]at h;simp only [den];rw [a1_ s h]
 | .iface _ a,h=>by simp only [okI]at h;simp only [den];rw [oy_ s h]
 | .agg cs,h=>by simp only [okI]at h;simp only [den];rw [a1_ s h]
 | .opq,h=>by simp [okI]at h
 | .ptr ..,h=>by simp [okI]at h
 | .sl ..,h=>by simp [okI]at h
 | .map ..,h=>by simp [okI]at h
 | .tup ..,h=>by simp [okI]at h
 | .sym ..,h=>by simp [okI]at h
 | .slx ..,h=>by simp [okI]at h
 | .ptx ..,h=>by simp [okI]at h
theorem a1_ (s:Nat->Option AV):∀{l:List AV},okL l=true->ab_ s l=l
 |[],_=>rfl
 |a::r,h=>by rw [aY_]at h;obtain ⟨h1,h2⟩:=aa_ h;simp only [ab_];rw [hZ_ s h1,a1_ s h2]
end
def bc_ (sz:Nat) (b:AV):Option (Nat×List AV):=match b with
 | .agg l=>some (Nat.div (aK_ l) sz,l)
 |b=>match aS_ b with
  |some n=>match aj_ ⟨hnil,0,0⟩ b n sz with
   |some l=>some (n,l)
   |none=>none
  |none=>none
def fE_ (sz bytes:Nat) (a:AV) (n:Nat) (l:List AV):Option AV:=match decide (l.length=n*sz)with
 |false=>none
 |true=>match a with
  | .nsl=>match n with
    |0=>some .nsl
    |_=>match Nat.ble (Nat.mul n bytes) 1073741824&&Nat.ble n 1073741824&&Nat.blt 0 bytes with
     |true=>some (.vsl n sz l)
     |false=>none
  | .vsl len sz' cs=>match decide (sz'=sz/\cs.length=len*sz)with
    |false=>none
    |true=>match n with
     |0=>some (.vsl len sz' cs)
     |_=>match Nat.ble (Nat.mul (Nat.add len n) bytes) 1073741824&&Nat.ble (Nat.add len n) 1073741824&&Nat.blt 0 bytes with
      |true=>some (.vsl (Nat.add len n) sz (cs++l))
      |false=>none
  |_=>none
def mI_ (d:TypeDesc) (k v:AV):List AV->Option (List AV)
 |[]=>some [k,v]
 |[_]=>none
 |q::x::r=>match hA_ d k q with
  |some true=>some (q::v::r)
  |some false=>match mI_ d k v r with
   |some l=>some (q::x::l)
   |none=>none
  |none=>none
def tO_ (d:TypeDesc) (m k v:AV):Option AV:=match gl_ d k with
 |true=>match m with
  | .vsl n z cs=>match Nat.beq z 2&&Nat.beq (Nat.mul n 2) (aK_ cs)with
    |true=>match mI_ d k v cs with
     |some l=>some (.vsl (Nat.div (aK_ l) 2) 2 l)
     |none=>none
    |false=>none
  |_=>none
 |false=>none
def nE_:List AV->List (AV×AV×Nat)
 |[]=>[]
 |[_]=>[]
 |k::v::r=>(unK k,v,0)::nE_ r
def rp_ (P:Program) (kt:TypeId) (k v:AV):List AV->Option (List AV)
 |[]=>some [enK k,v]
 |[_]=>none
 |q::x::r=>match h1_ P kt k (unK q)with
  |some true=>match dF_ k (unK q)with
   |true=>some (enK k::v::r)
   |false=>none
  |some false=>match rp_ P kt k v r with
   |some l=>some (q::x::l)
   |none=>none
  |none=>none
inductive XOp where
 |bin (op:BinOp) (t:TypeId) (cx cy:Bool)
 |un (op:UnOp)
 |conv (s d:TypeId)
 |idx (t:TypeId)
 |iaddr (t:TypeId)
 |faddr (s:TypeId) (f:Nat)
 |load (t:TypeId)
 |fld (s:TypeId) (f:Nat)
 |slc (t:TypeId) (lo hi:Bool)
 |len (t:TypeId)
 |nilc
 |app (sz bytes:Nat)
 |mm (mx:Bool)
 |mput (t:TypeId)
 |mlen
 |ext (f:FuncId)
 |inb
 |ldx (t:TypeId) (sz off:Nat)
 |stx (t:TypeId) (sz off:Nat)
 |tkx
 |mget (t:TypeId) (es:List (AV×AV×Nat))
 |mlk (t:TypeId)
 |mpu (t:TypeId)
 |emp
 |mkx (sz bytes:Nat) (zs:List AV)
 |mkz (sz bytes:Nat) (zs:List AV)
 |skx
 |flat (sz off es len:Nat)
 |opn (len sz:Nat)
def h0:AHeap:=⟨hnil,0,0⟩
def bL_:AV->Bool
 | .ptr _ _| .sl _ _ _ _ _| .map _| .slx _ _ _| .ptx _ _ _ _=>false
 |_=>true
def d7_ (x:AV) (r:Option AV):Option AV:=match bL_ x with
 |true=>r
 |false=>none
def rM_ (cs:List AV):AHeap:=(⟨hnil,0,0⟩:AHeap).set 0 (.cells cs)
def XOp.run (P:Program):XOp->List AV->Option AV
 | .bin op t cx cy,[x,y]=>bD_ P op t cx cy x y
 | .un op,[x]=>mg_ op x
 | .conv s d,[x]=>d7_ x (cq_ P h0 s d x)
 | .idx t,[x,i]=>eC_ P t x i
 | .iaddr t,[x,i]=>aR_ P t x i
 | .faddr s f,[x]=>bT_ P s x f
 | .load t,[x]=>d7_ x (bl_ P h0 t x)
 | .fld s f,[x]=>eB_ P s x f
 | .slc t false false,[x]=>d7_ x (ba_ P h0 t x none none)
 | .slc t true false,[x,a]=>d7_ x (ba_ P h0 t x (some a) none)
 | .slc t false true,[x,b]=>d7_ x (ba_ P h0 t x none (some b))
 | .slc t true true,[x,a,b]=>d7_ x (ba_ P h0 t x (some a) (some b))
 | .len t,[x]=>d7_ x (b9_ P h0 t x)
 | .nilc,[x]=>match x with
   | .vptr cs=>some (.vptr cs)
   |_=>none
 | .mm mx,[x,y]=>match x with
   | .int k a=>match y with
     | .int k' b=>match Nat.beq (kix k) (kix k')with
       |true=>some (.int k (match mx with|true=>max a b|false=>min a b))
       |false=>none
     |_=>none
   |_=>none
 | .mput t,[m,k,v]=>match P.underlying t with
   |some (.map kt _)=>match P.underlying kt with
    |some d=>tO_ d m k v
    |none=>none
   |_=>none
 | .mlen,[m]=>match m with
   | .vsl n z cs=>match Nat.beq z 2 with
     |true=>some (.int .i64 (.ofNat n))
     |false=>none
   |_=>none
 | .ext f,[x]=>match ck_ x with
   |some u=>match aI_ P (callFunc f #[u])with
    |some (.value v)=>some (ofV v)
    |_=>none
   |none=>none
 | .mget t es,[k]=>br_ P ((⟨hnil,0,0⟩:AHeap).set 0 (.map es 0)) t (.map 0) k false
 | .mlk t,[m,k]=>match m with
   | .vsl n z cs=>match Nat.beq z 2 with
     |true=>br_ P ((⟨hnil,0,0⟩:AHeap).set 0 (.map (nE_ cs) 0)) t (.map 0) k false
     |false=>none
   |_=>none
 | .mpu t,[m,k,v]=>match P.underlying t with
   |some (.map kt _)=>match P.underlying kt with
    |some d=>match ec_ d&&d0_ P kt k with
     |true=>match m with
      | .vsl n z cs=>match Nat.beq z 2&&Nat.beq (Nat.mul n 2) (aK_ cs)with
        |true=>match rp_ P kt k v cs with
         |some l=>some (.vsl (Nat.div (aK_ l) 2) 2 l)
         |none=>none
        |false=>none
      |_=>none
     |false=>none
    |none=>none
   |_=>none
 | .inb,[x,i]=>match x with
   | .vsl ln _ _=>match i with
     | .int _ m=>match Sx.idx m ln with
       |some n=>some (.int .i64 (.ofNat n))
       |none=>none
     |_=>none
   |_=>none
 | .ldx t sz off,[x,j]=>match x with
   | .vsl _ _ cs=>match j with
     | .int _ (.ofNat n)=>bl_ P (rM_ cs) t (.ptr 0 (Nat.add (Nat.mul n sz) off))
     |_=>none
   |_=>none
 | .stx t sz off,[x,j,v]=>match x with
   | .vsl ln z cs=>match j with
     | .int _ (.ofNat n)=>match cb_ P (rM_ cs) t (.ptr 0 (Nat.add (Nat.mul n sz) off)) v with
       |some r=>match r.2.get 0 with
        |some (.cells cs')=>some (.vsl ln z cs')
        |_=>none
       |none=>none
     |_=>none
   |_=>none
 | .tkx,[x,r,i]=>match i with
   | .int _ (.ofNat m)=>match x with
     | .vsl ln z0 _=>match r with
       | .vsl n z cs=>match Nat.beq z z0&&(Nat.ble m ln&&Nat.ble m n)with
         |true=>match aZ_ (Nat.mul m z) cs with
          |some cs'=>some (.vsl m z cs')
          |none=>none
         |false=>none
       |_=>none
     | .nsl=>match r with
       | .nsl=>match m with
         |0=>some .nsl
         |_=>none
       |_=>none
     |_=>none
   |_=>none
 | .flat sz off es ln,[j,h]=>match j with
   | .int _ (.ofNat n)=>match h with
     | .int _ i=>match Sx.idx i ln with
       |some m=>some (.int .i64 (.ofNat (Nat.add (Nat.add (Nat.mul n sz) off) (Nat.mul m es))))
       |none=>none
     |_=>none
   |_=>none
 | .opn ln sz,[x]=>match x with
   | .vsl n z cs=>match Nat.beq n ln&&(Nat.beq z sz&&Nat.beq (aK_ cs) (Nat.mul ln sz))with
     |true=>some (.agg cs)
     |false=>none
   |_=>none
 | .mkx sz bytes zs,[a]=>match a with
   | .int _ (.ofNat n)=>match Nat.ble (Nat.mul bytes n) 16777216&&Nat.ble n 16777216 with
     |true=>some (.vsl n sz (ax_ zs n))
     |false=>none
   |_=>none
 | .mkz sz bytes zs,[a]=>match a with
   | .int _ (.ofNat n)=>match Nat.blt 0 sz&&(Nat.blt 0 bytes&&(Nat.blt 0 n&&(Nat.ble (Nat.mul n bytes) 1073741824&&Nat.ble n 1073741824)))with
     |true=>some (.vsl n sz (ax_ zs n))
     |false=>none
   |_=>none
 | .skx,[x,a]=>match x with
   | .vsl n z cs=>match a with
     | .int _ (.ofNat m)=>match Nat.ble m n with
       |true=>some (.vsl (Nat.sub n m) z (ai_ (Nat.mul m z) cs))
       |false=>none
     |_=>none
   |_=>none
 | .emp,[a]=>match a with
   | .nsl=>some (.bool true)
   | .vsl n _ _=>some (.bool (Nat.beq n 0))
   |_=>none
 | .app sz bytes,[a,b]=>match bc_ sz b with
   |some (n,l)=>fE_ sz bytes a n l
   |none=>none
 |_,_=>none
theorem nI_ {P:Program} {H:AHeap} {t:TypeId} {x:AV} (h:bL_ x=true):bl_ P H t x=bl_ P h0 t x:=by
 have hc:∀n,aT_ H x n=aT_ h0 x n:=λn=>by cases x<;>first|rfl|(simp [bL_]at h)
 grind [bl_]
theorem pN_ {P:Program} {H:AHeap} {t:TypeId} {x:AV} (h:bL_ x=true):b9_ P H t x=b9_ P h0 t x:=by
 unfold b9_
 grind [bL_]
theorem gu_ {H:AHeap} {x:AV} (h:bL_ x=true) (n sz:Nat):aj_ H x n sz=aj_ h0 x n sz:=by cases x<;>first|rfl|(simp [bL_]at h)
theorem nF_ {P:Program} {H:AHeap} {s d:TypeId} {x:AV} (h:bL_ x=true):cq_ P H s d x=cq_ P h0 s d x:=by cases x<;>first|rfl|(simp [bL_]at h)
theorem dr_ {P:Program} {H:AHeap} {t:TypeId} {x:AV} (h:bL_ x=true) (lo hi:Option AV):ba_ P H t x lo hi=ba_ P h0 t x lo hi:=by cases x<;>first|rfl|(simp [bL_]at h)
theorem bG_ {x:AV} {r:Option AV} {a:AV} (h:d7_ x r=some a):bL_ x=true/\r=some a:=by
 grind [d7_]
structure XS where
 T:Tm
 H:AHeap
 n:Nat
def sO_ {α β:Type} (f:α->β) (q:Q8 α):Q8 β:=Q8.casesOn q λa b c d e g h i=>⟨f a,f b,f c,f d,f e,f g,f h,f i⟩
def bj_ (f:AV->AV) (T:Tm):Tm:=sO_ (sO_ (sO_ f)) T
theorem qH_ {α β:Type} (f:α->β) (q:Q8 α):∀i:Nat,Q8.at8 i (sO_ f q)=f (Q8.at8 i q)
 |0=>by rfl
 |1=>by rfl
 |2=>by rfl
 |3=>by rfl
 |4=>by rfl
 |5=>by rfl
 |6=>by rfl
 |n+7=>by rfl
theorem aG_ (f:AV->AV) (T:Tm) (t:Nat):tget (bj_ f T) t=f (tget T t):=by
 grind [fq_,bj_,qH_]
def hf_ (i:Nat) (b:Bool) (a:AV):AV:=match a with
 | .sym j=>match Nat.beq j i with
   |true=>.bool b
   |false=>.sym j
 |a=>a
def XS.know (S:XS) (i:Nat) (b:Bool):XS:=⟨bj_ (hf_ i b) S.T,S.H,S.n⟩
variable [Gl]
def c9_ (T:Tm) (o:Oper):Option (XOp×List AV):=match o.op with
 | .binOp op t x y _=>some (.bin op t (by_ x) (by_ y),[look T x,look T y])
 | .unOp op _ x=>some (.un op,[look T x])
 | .convert s d x=>some (.conv s d,[look T x])
 | .index t x i=>some (.idx t,[look T x,look T i])
 | .indexAddr t x i=>some (.iaddr t,[look T x,look T i])
 | .fieldAddr s x f=>some (.faddr s f,[look T x])
 | .load t a=>some (.load t,[look T a])
 | .field s x f=>some (.fld s f,[look T x])
 | .slice t x lo hi mx=>match mx with
   |none=>match lo with
    |none=>match hi with
     |none=>some (.slc t false false,[look T x])
     |some b=>some (.slc t false true,[look T x,look T b])
    |some a=>match hi with
     |none=>some (.slc t true false,[look T x,look T a])
     |some b=>some (.slc t true true,[look T x,look T a,look T b])
   |some _=>none
 | .nilCheck x=>some (.nilc,[look T x])
 | .call c=>match c.callee with
   | .builtin b=>match b with
     | .len=>match c.args.toList,c.argTypes.toList with
       |[x],[t]=>some (.len t,[look T x])
       |_,_=>none
     | .max=>match c.args.toList with
       |[x,y]=>some (.mm true,[look T x,look T y])
       |_=>none
     | .min=>match c.args.toList with
       |[x,y]=>some (.mm false,[look T x,look T y])
       |_=>none
     |_=>none
   |_=>none
 |_=>none
omit [Gl]in
def tX_ (P:Program) (t:TypeId):Option Nat:=match P.underlying t with
 |some d=>match lN_ d with
  |true=>match P.info? t with
   |some i=>some i.size
   |none=>none
  |false=>none
 |none=>none
omit [Gl]in
def my_ (P:Program) (op:XOp):Option Nat:=match op with
 | .load t=>tX_ P t
 | .ldx t _ _=>tX_ P t
 | .fld s f=>match P.underlying s with
   |some (.struct fields)=>match fields[f]? with
    |some fl=>tX_ P fl.type
    |none=>none
   |_=>none
 |_=>none
def rY_ (a:AV):Option Nat:=match a with
 | .sym i=>some i
 |_=>none
def mq_ (all:List Oper) (o:Oper) (T:Tm):Option Nat:=match o.guard with
 |none=>none
 |some (j,_)=>match iV_ all j with
  |some oj=>match oj.dst with
   |some d=>rY_ (tget T d)
   |none=>none
  |none=>none
def jq_ (T:Tm) (x:Operand):Option Nat:=match x with
 | .tmp t=>match Nat.blt t 512 with
   |true=>rY_ (tget T t)
   |false=>none
 |_=>none
def lr_ (o:Oper) (T:Tm):Option (Nat×Operand×Operand):=match o.op with
 | .pick c a b=>match jq_ T c with
   |some i=>some (i,a,b)
   |none=>none
 |_=>none
structure Fact where
 o:BinOp
 l:Bool
 i:Nat
 c:AV
 v:AV
def Fact.has (f:Fact) (o:BinOp) (x y:AV):Bool:=decide (o=f.o)&&(match f.l with
 |true=>bP_ x (.sym f.i)&&bP_ y f.c
 |false=>bP_ y (.sym f.i)&&bP_ x f.c)
def mi_:List Fact->XOp->List AV->Option AV
 |[],_,_=>none
 |f::r,op,args=>match op,args with
  | .bin o _ _ _,[x,y]=>match f.has o x y with
    |true=>some f.v
    |false=>mi_ r op args
  |_,_=>none
def Fact.ok (P:Program) (f:Fact) (a:AV):Prop:=∀t cx cy,(match f.l with
 |true=>bD_ P f.o t cx cy a f.c
 |false=>bD_ P f.o t cx cy f.c a)=some f.v
structure XF where
 f:FuncId
 args:List AV
 v:AV
structure FcT where
 b:List Fact
 x:List XF
def oN_:List XF->FuncId->List AV->Option AV
 |[],_,_=>none
 |q::r,f,args=>match Nat.beq f q.f&&dE_ args q.args with
  |true=>some q.v
  |false=>oN_ r f args
def qL_ (x:List XF) (T:Tm) (o:Oper):Option AV:=match o.op with
 | .call c=>match c.callee with
   | .value f=>match f with
     | .func id=>oN_ x id (jN_ (look T) c.args.toList)
     |_=>none
   |_=>none
 |_=>none
def XOk (P:Program) (Y:Sy) (q:XF):Prop:=∀(B:World) (pr:Nat->Prop) (E:Env) (H:AHeap) (w:World) (vs:List Value),(∀i,i<64->E.sy i=Y.v i)->GlOk E->Rel B pr E H w->ConL E q.args vs->
 ∃u,(callFunc q.f ⟨vs⟩).run P w=.ok (.value u) w/\Con E q.v u
def KnownF (P:Program) (fc:FcT) (Y:Sy):Prop:=(∀f∈fc.b,okC f.v=true/\okC f.c=true/\∃a,Y.v f.i=some a/\f.ok P a)/\∀q∈fc.x,XOk P Y q
end Go.Sx
namespace Go.Sx
variable [Gl]
section
variable {P:Program} {N k:Nat}
theorem hi_ {all:List Oper} {K K':KP} {X X':XP} (hk:∀Y T H D,K Y T H D->K' Y T H D) (hx:∀Y r,X Y r->X' Y r):∀(l:List Oper) (Y:Sy) (T:Tm) (H:AHeap) (D:Dfs),
  hS_ P N k all l Y T H D K X->hS_ P N k all l Y T H D K' X'
 |[],Y,T,H,D,h=>hk _ _ _ _ h
 |o::r,Y0,T0,H0,D0,h=>by
  obtain ⟨Y,T,H,D,hw,h⟩:=h;refine ⟨Y,T,H,D,hw,?_⟩;split at h;exact h.elim
  .obtain ⟨t,ht,h1,h2⟩:=h;have ih:=hi_ (all:=all) hk hx r;refine ⟨t,ht,λe=>?_,λe=>ih _ _ _ _ (h2 e)⟩;rcases h1 e with h1|h1|h1|h1
   .unfold eY_ at h1⊢;split at h1<;>grind [SemCall.mono]
   refine .inr (.inl ?_);obtain ⟨Y',r,H',h3,h4⟩:=h1;exact ⟨Y',r,H',ih _ _ _ _ h3,h4⟩;refine .inr (.inr (.inl ?_));obtain ⟨g,args,Y',r,h2,h3,h4⟩:=h1;exact ⟨g,args,Y',r,h2,ih _ _ _ _ h3,h4⟩;refine .inr (.inr (.inr ?_));obtain ⟨g,args,R,h2,h3,h4,h5⟩:=h1;exact ⟨g,args,R,h2,λY' r H' h=>ih _ _ _ _ (h3 Y' r H' h),λY' v H' h=>hx _ _ (h4 Y' v H' h),h5⟩
omit [Gl]in
theorem dx_ {K K':KP} {X X':XP} (hk:∀Y T H D,K Y T H D->K' Y T H D) (hx:∀Y r,X Y r->X' Y r) {Y:Sy} {r:CRes} (h:ay_ K X Y r):ay_ K' X' Y r:=by
 cases r with
 |norm T H D=>exact hk _ _ _ _ h
 |exit id T H D=>exact hx _ _ h
 |ret T H D=>exact hx _ _ h
 |pan v T H D=>exact hx _ _ h
omit [Gl]in
theorem lQ_ {id:Nat} {K K':KP} {X X':XP} (hk:∀Y T H D,K Y T H D->K' Y T H D) (hx:∀Y r,X Y r->X' Y r) {Y:Sy} {r:CRes} (h:nx_ id K X Y r):nx_ id K' X' Y r:=by
 cases r with
 |norm T H D=>exact hx _ _ h
 |exit id' T H D=>exact ⟨λe=>hk _ _ _ _ (h.1 e),λe=>hx _ _ (h.2 e)⟩
 |ret T H D=>exact hx _ _ h
 |pan v T H D=>exact hx _ _ h
theorem aA_:∀(c:Code) {K K':KP} {X X':XP} (hk:∀Y T H D,K Y T H D->K' Y T H D) (hx:∀Y r,X Y r->X' Y r) (Y:Sy) (T:Tm) (H:AHeap) (D:Dfs),
  aQ_ P N k c Y T H D K X->aQ_ P N k c Y T H D K' X'
 | .skip,_,_,_,_,hk,hx,Y,T,H,D,h=>by grind [aQ_]
 | .label _,_,_,_,_,hk,hx,Y,T,H,D,h=>by grind [aQ_]
 | .exit id,_,_,_,_,hk,hx,Y,T,H,D,h=>by grind [aQ_]
 | .ret,_,_,_,_,hk,hx,Y,T,H,D,h=>by grind [aQ_]
 | .region id ops false,_,_,_,_,hk,hx,Y,T,H,D,h=>by grind [aQ_,hi_]
 | .region id ops true,_,_,_,_,hk,hx,Y,T,H,D,h=>by rcases h with h|h;obtain ⟨Y1,T1,H1,D1,hw,call,r,hc,hd,hr⟩:=h;exact .inl ⟨Y1,T1,H1,D1,hw,call,r,hc,hd,dx_ hk hx hr⟩;refine .inr λB pr E a w hy st=>Code.wp_mono (λe a w hq=>?_) (h B pr E a w hy st);obtain ⟨Y',r,hr,hq⟩:=hq;exact ⟨Y',r,dx_ hk hx hr,hq⟩
 | .seq a b,_,_,_,_,hk,hx,Y,T,H,D,h=>by unfold aQ_ at h⊢;exact aA_ a (λY T H D h=>aA_ b hk hx Y T H D h) hx Y T H D h
 | .cond c a b,_,_,_,_,hk,hx,Y,T,H,D,h=>by unfold aQ_ at h⊢;obtain ⟨Y1,T1,H1,D1,hw,t,ht,h1,h2⟩:=h;exact ⟨Y1,T1,H1,D1,hw,t,ht,λe=>aA_ a hk hx _ _ _ _ (h1 e),λe=>aA_ b hk hx _ _ _ _ (h2 e)⟩
 | .block id b,_,_,_,_,hk,hx,Y,T,H,D,h=>by unfold aQ_ at h⊢;exact aA_ b hk (λY r h=>lQ_ hk hx h) _ _ _ _ h
 | .loop b,_,_,_,_,hk,hx,Y,T,H,D,h=>by unfold aQ_ at h⊢;obtain ⟨ι,S,μ,i0,hw,hb⟩:=h;exact ⟨ι,S,μ,i0,hw,λi=>aA_ b (λ_ _ _ _ h=>h) hx _ _ _ _ (hb i)⟩
 | .scope _,_,_,_,_,hk,hx,Y,T,H,D,h=>by grind [aQ_]
 | .goto _,_,_,_,_,hk,hx,Y,T,H,D,h=>by grind [aQ_]
 | .refuse _,_,_,_,_,hk,hx,Y,T,H,D,h=>by grind [aQ_]
 | .rangeFunc _ _ _ _,_,_,_,_,hk,hx,Y,T,H,D,h=>by grind [aQ_]
end
section
variable {P:Program} {N k:Nat} {Q:AV->Prop} {fuel:Nat} {fc:FcT}
omit [Gl]in
theorem it_ {E:Env} {i:Nat} {b:Bool} (hi:E.sy i=some (.bool b)) {a:AV} {v:Value} (h:Con E a v):Con E (hf_ i b a) v:=by
 unfold hf_
 grind [zc',Con,Con0]
theorem fh_ {Y:Sy} {i:Nat} {b:Bool} (hi:Y.v i=some (.bool b)) (S:XS) (D:Dfs):Weak P N k Y S.T S.H D Y (S.know i b).T S.H D:=λB pr E a w hy st=>
 ⟨E,Env.leF_refl k E,hy,⟨st.t.size,st.t.le,λt ht=>by show Con E (tget (bj_ (hf_ i b) S.T) t) _;rw [aG_];exact it_ (by rw [hy.v];exact hi) (st.t.con t ht),st.t.gl⟩,st.r,st.d⟩
def rdS (s:Nat->Option AV) (T:Tm) (x:Operand):AV:=match ae_ (look T x)with
 |true=>den s (look T x)
 |false=>look T x
theorem s5_ {E:Env} {N:Nat} {T:Tm} {a:Act} (h:TRel E N T a.tmps) (x:Operand):Con E (rdS E.sy T x) (a.eval x):=by have hl:=h.look x;unfold rdS;split;rename_i hs;exact (an_ hs hl).con;exact hl
theorem cd_ {s:Nat->Option AV} {T:Tm} {x:Operand} (h:ae_ (look T x)=true):rdS s T x=den s (look T x):=by unfold rdS;rw [h]
omit [Gl]in
theorem ag_ {a:AV} {r:List AV} (h:ad_ (a::r)=true):ae_ a=true/\ad_ r=true:=by
 simp only [ad_]at h
 grind
theorem t9_ {o:Oper} {op:XOp} {args:List AV} {T:Tm} (hl:c9_ T o=some (op,args)) (hmm:∀mx,op≠ .mm mx) (hs:ad_ args=true) {s:Nat->Option AV} {r:AV} (hr:op.run P (ab_ s args)=some r) (H:AHeap):
  aB_ P (rdS s T) H o=some (.val r H):=by
 unfold c9_ at hl;unfold aB_;split at hl
 .cases hl;obtain ⟨s1,s2⟩:=ag_ hs;obtain ⟨s2,_⟩:=ag_ s2
  grind [ab_,XOp.run,cd_,oV]
 .cases hl;obtain ⟨s1,_⟩:=ag_ hs
  grind [ab_,XOp.run,cd_,oV]
 .cases hl;obtain ⟨s1,_⟩:=ag_ hs
  grind [ab_,XOp.run,bG_,cd_,fa_,nF_,oP]
 .cases hl;obtain ⟨s1,s2⟩:=ag_ hs;obtain ⟨s2,_⟩:=ag_ s2
  grind [ab_,XOp.run,cd_,oV]
 .cases hl;obtain ⟨s1,s2⟩:=ag_ hs;obtain ⟨s2,_⟩:=ag_ s2
  grind [ab_,XOp.run,cd_,oV]
 .cases hl;obtain ⟨s1,_⟩:=ag_ hs
  grind [ab_,XOp.run,cd_,oV]
 .cases hl;obtain ⟨s1,_⟩:=ag_ hs
  grind [ab_,XOp.run,bG_,cd_,nI_,oV]
 .cases hl;obtain ⟨s1,_⟩:=ag_ hs
  grind [ab_,XOp.run,cd_,oV]
 .rename_i t x lo hi mx ho;cases mx with
  |some _=>cases hl
  |none=>
   cases lo with
   |none=>
    cases hi with
    |none=>
     cases hl;obtain ⟨s1,_⟩:=ag_ hs
     grind [ab_,XOp.run,bG_,nY_,cd_,dr_,oV]
    |some b=>
     cases hl;obtain ⟨s1,s2⟩:=ag_ hs;obtain ⟨s2,_⟩:=ag_ s2
     grind [ab_,XOp.run,bG_,nY_,cd_,dr_,oV]
   |some a=>
    cases hi with
    |none=>
     cases hl;obtain ⟨s1,s2⟩:=ag_ hs;obtain ⟨s2,_⟩:=ag_ s2
     grind [ab_,XOp.run,bG_,nY_,cd_,dr_,oV]
    |some b=>
     cases hl;obtain ⟨s1,s2⟩:=ag_ hs;obtain ⟨s2,s3⟩:=ag_ s2;obtain ⟨s3,_⟩:=ag_ s3
     grind [ab_,XOp.run,bG_,nY_,cd_,dr_,oV]
 .cases hl;obtain ⟨s1,_⟩:=ag_ hs
  grind [ab_,XOp.run,cd_]
 .rename_i c ho;split at hl
  .rename_i b hb;split at hl
   .split at hl
    .cases hl;obtain ⟨s1,_⟩:=ag_ hs
     grind [ab_,XOp.run,bG_,d4_,cd_,pN_,oV]
    cases hl
   all_goals grind
  cases hl
 cases hl
theorem vf_ {o:Oper} {mx:Bool} {args:List AV} {T:Tm} (hl:c9_ T o=some (.mm mx,args)):∃x y ty,o.op=.call ⟨.builtin (match mx with|true=>.max|false=>.min),#[x,y],ty⟩/\args=[look T x,look T y]:=by
 unfold c9_ at hl;split at hl<;>(first|(cases hl;done)|skip)
 .grind
 .rename_i c ho;split at hl
  .rename_i b hb;obtain ⟨callee,cargs,ty⟩:=c;subst hb;split at hl
   .grind
   .split at hl
    .rename_i x y h1;have h1:=al_ h1
     grind
    cases hl
   .split at hl
    .rename_i x y h1;have h1:=al_ h1
     grind
    cases hl
   cases hl
  cases hl
theorem nW_ {o:Oper} {op:XOp} {args:List AV} {T:Tm} (hl:c9_ T o=some (op,args)) (hs:ad_ args=true) {B:World} {pr:Nat->Prop} {E:Env} {a:Act} {w:World} {H:AHeap} {N:Nat} {r:AV} (hr:op.run P (ab_ E.sy args)=some r)
  (hrel:Rel B pr E H w) (ht:TRel E N T a.tmps):∃E' n v w',(execOp a.eval o).run P w=.ok n w'/\(n=.value v\/(n=.skip/\v=undef))/\E.le E'/\Rel B pr E' H w'/\Con E' r v:=by
 by_cases hmm:∃mx,op=.mm mx
 .obtain ⟨mx,rfl⟩:=hmm;obtain ⟨x,y,ty,ho,rfl⟩:=vf_ hl;obtain ⟨s1,s2⟩:=ag_ hs;obtain ⟨s2,_⟩:=ag_ s2;have c1:=an_ s1 (ht.look x);have c2:=an_ s2 (ht.look y);simp only [ab_,XOp.run]at hr;split at hr
  .rename_i k p hp;split at hr
   .rename_i k' q hq;split at hr
    .cases hr;rw [hp]at c1;rw [hq]at c2;simp only [Con0]at c1 c2;have e:Array.map a.eval #[x,y]= #[a.eval x,a.eval y]:=(by simp);cases mx with
     |true=>refine ⟨E,.value (.int k (max p q)),_,w,?_,.inl rfl,Env.le_refl E,hrel,by simp [Con]⟩;unfold execOp;simp only [ho,resolve,Sem.run_bind,Sem.run_pure,Result.andThen_ok,invoke,builtin,e,c1,c2];simp [Builtin.max_,Builtin.max2,Int.max_def];omega
     |false=>refine ⟨E,.value (.int k (min p q)),_,w,?_,.inl rfl,Env.le_refl E,hrel,by simp [Con]⟩;unfold execOp;simp only [ho,resolve,Sem.run_bind,Sem.run_pure,Result.andThen_ok,invoke,builtin,e,c1,c2];simp [Builtin.min_,Builtin.min2,Int.min_def];omega
    cases hr
   cases hr
  cases hr
 exact gN_ hrel (λx=>s5_ ht x) (t9_ hl (λmx h=>hmm ⟨mx,h⟩) hs hr H)
theorem lg_ {o:Oper} {op:XOp} {args:List AV} {T:Tm} (hl:c9_ T o=some (op,args)) (hs:ad_ args=true) {Y:Sy} {r:AV} (hr:op.run P (ab_ Y.v args)=some r)
  {B:World} {pr:Nat->Prop} {E:Env} {a:Act} {w:World} {H:AHeap} {D:Dfs} (hy:E.At Y) (st:St P B pr N E T H D a w):
  ∃E' n v w',(execOp a.eval o).run P w=.ok n w'/\(n=.value v\/(n=.skip/\v=undef))/\E.le E'/\St P B pr N E' T H D a w'/\Con E' r v:=by
 have hE:E.sy=Y.v:=hy.v;rw [←hE]at hr;obtain ⟨E',n,v,w',h1,h2,h3,h4,h5⟩:=nW_ hl hs hr st.r st.t;exact ⟨E',n,v,w',h1,h2,h3,⟨st.t.mono h3,h4,st.d.mono h3⟩,h5⟩
theorem KnownF.sub {Y Y':Sy} (h:KnownF P fc Y) (hs:∀i x,Y.v i=some x->Y'.v i=some x) (hl:∀i,i<64->Y'.v i=Y.v i):KnownF P fc Y':=
 ⟨λf hf=>by
  obtain ⟨h1,h2,a,h3,h4⟩:=h.1 f hf
  grind,λq hq B pr E H w vs hy=>h.2 q hq B pr E H w vs λi hi=>(hy i hi).trans (hl i hi)⟩
omit [Gl]in
theorem mk_:∀{l:List XF} {f:FuncId} {args:List AV} {v:AV},oN_ l f args=some v->⟨f,args,v⟩∈l
 |[],f,args,v,h=>by cases h
 |q::r,f,args,v,h=>by unfold oN_ at h;split at h;rename_i hb;cases h;obtain ⟨h1,h2⟩:=aa_ hb;have h1:=zc' h1;have h2:=bn_ h2;subst h1 h2;exact za' ..;exact zb' _ (mk_ h)
theorem qM_ {o:Oper} {S:XS} {Y:Sy} {D:Dfs} (hfc:KnownF P fc Y) {u:Tm->AV->Tm} {next:KP} {v:AV} (hv:qL_ fc.x S.T o=some v) (hn:next Y (u S.T v) S.H D):gx_ P N k o u Y S.T S.H D next:=by
 unfold qL_ at hv;split at hv
 .rename_i c ho;split at hv
  .rename_i f hf;split at hv
   .rename_i id;have hq:=hfc.2 _ (mk_ hv);refine ⟨Y,v,S.H,hn,λB pr E a w hy st=>?_⟩;have hcon:ConL E (jN_ (look S.T) c.args.toList) (c.args.toList.map a.eval):=eL_ (λx=>st.t.look x) _;obtain ⟨w1,h1,h2⟩:=hq B pr E S.H w _ (λi _=>by rw [hy.v]) st.t.gl st.r hcon;refine ⟨E,.value w1,w1,w,?_,.inl rfl,Env.leF_refl k E,hy,st,h2⟩;obtain ⟨callee,args,argTypes⟩:=c;have e:(⟨args.toList.map a.eval⟩:Array Value)=args.map a.eval:=(by grind);have ev:a.eval (.func id)=.func (.func id) #[] #[]:=rfl
    grind [execOp,resolve,Deferred.ofValue,invoke]
   cases hv
  cases hv
 cases hv
omit [Gl]in
theorem mj_:∀{l:List Fact} {op:XOp} {args:List AV} {v:AV},mi_ l op args=some v->∃f∈l,∃t cx cy x y,op=.bin f.o t cx cy/\args=[x,y]/\v=f.v/\f.has f.o x y=true
 |[],op,args,v,h=>by cases h
 |f::r,op,args,v,h=>by unfold mi_ at h;split at h;rename_i o t cx cy x y;split at h;rename_i hb;cases h;have h1:o=f.o:=of_decide_eq_true (aa_ hb).1;subst h1;exact ⟨f,za' ..,t,cx,cy,x,y,rfl,rfl,rfl,hb⟩;obtain ⟨f',hf,h⟩:=mj_ h;exact ⟨f',zb' _ hf,h⟩;cases h
theorem sI_ {o:Oper} {op:XOp} {args:List AV} {S:XS} {Y:Sy} {D:Dfs} (hfc:KnownF P fc Y) (hl:c9_ S.T o=some (op,args)) (hs:ad_ args=true) {u:Tm->AV->Tm} {next:KP} {v:AV}
  (hv:mi_ fc.b op args=some v) (hn:next Y (u S.T v) S.H D):gx_ P N k o u Y S.T S.H D next:=by
 obtain ⟨f,hf,t,cx,cy,x,y,rfl,rfl,rfl,hb⟩:=mj_ hv;obtain ⟨h1,h2,a,h3,h4⟩:=hfc.1 f hf;have hr:(XOp.bin f.o t cx cy).run P (ab_ Y.v [x,y])=some f.v:=by
  have h4:=h4 t cx cy;have hb:=(aa_ hb).2;cases hl:f.l with
  |true=>
   grind [aH_,ab_,den,XOp.run,hZ_]
  |false=>
   grind [aH_,ab_,den,XOp.run,hZ_]
 refine ⟨Y,f.v,S.H,hn,λB pr E a w hy st=>?_⟩;obtain ⟨E',n,v,w',g1,g2,g3,st',g5⟩:=lg_ hl hs hr hy st;exact ⟨E',n,v,w',g1,g2,g3.leF k,hy.le g3,st',g5⟩
theorem eX_ {T:Tm} {c:Operand} {i:Nat} (h:jq_ T c=some i) (S:XS) (hS:S.T=T) (b:Bool):look (S.know i b).T c=.bool b:=by
 subst hS;unfold jq_ at h;split at h
 .rename_i t;split at h
  .rename_i hb;unfold rY_ at h;split at h
   .have e1:look (S.know i b).T (.tmp t)=tget (S.know i b).T t:=(by unfold look aU_;simp only [hb];rfl);rw [e1];show tget (bj_ (hf_ i b) S.T) t=_
    grind [aG_,hf_,zd']
   cases h
  cases h
 cases h
omit [Gl]in
theorem iF_ {all:List Oper} {o:Oper} {g:Tm->Option Bool} (hg:a2_ all o=.mk g) {S:XS} {t:Bool} (h:g S.T=some t) (i:Nat) (b:Bool):g (S.know i b).T=some t:=by
 unfold a2_ at hg;split at hg;cases hg
 .rename_i j want hgu;split at hg
  .split at hg
   .rename_i d hd;split at hg
    .cases hg;have e:(acs d).f (S.know i b).T=hf_ i b ((acs d).f S.T):=aG_ _ _ _;show bq_ ((acs d).f (S.know i b).T) want=some t;have h:bq_ ((acs d).f S.T) want=some t:=h;rw [e];generalize (acs d).f S.T=x at h⊢;cases x<;>first|exact h|(simp [bq_]at h)
    grind
   grind
  grind
def hT_ (Q:AV->Prop) (Y:Sy) (r:FRes):Prop:=∃a H1 v m,r=.ret a H1/\eT_ m H1 a=some v/\ae_ v=true/\Q (den Y.v v)
end
end Go.Sx
namespace Go.Sx
def mO_:List AV->Bool
 |[]=>true
 |a::r=>match okI a with
  |true=>mO_ r
  |false=>false
theorem kt_ {E:Env}:∀{as:List AV} {vs:List Value},mO_ as=true->ConL E as vs->Con0L E as vs
 |[],_,_,hc=>by grind [Con0L,ConL]
 |a::as,vs,h,hc=>by
  simp only [ConL]at hc;simp only [Con0L];obtain ⟨v,r,e,c1,c2⟩:=hc;simp only [mO_]at h;cases ha:okI a with
  |true=>rw [ha]at h;exact ⟨v,r,e,iZ_ ha c1,kt_ h c2⟩
  |false=>rw [ha]at h;cases h
theorem cS_:∀{l:List AV},okL l=true->∀a∈l,okC a=true
 |[],_,a,h=>by cases h
 |b::r,h,a,hm=>by
  rw [aY_]at h;obtain ⟨h1,h2⟩:=aa_ h;cases hm with
  |head=>exact h1
  |tail _ hm=>exact cS_ h2 a hm
theorem i9_:∀{Y:Sy} {n:Nat} (l:List AV) (i:Nat) (a:AV),(Y.puts n l).v i=some a->Y.v i=some a\/a∈l
 |Y,n,[],i,a,h=>.inl h
 |Y,n,b::r,i,a,h=>by rcases i9_ (Y:=Y.put n b) (n:=n+1) r i a h with h|h;by_cases e:i=n;subst e;rw [Sy.put_same]at h;cases h;exact .inr (za' ..);rw [Sy.put_ne _ _ e]at h;exact .inl h;exact .inr (zb' _ h)
theorem hI_:∀n m:Nat,ad_ (ak_ n m)=true
 |_,0=>rfl
 |n,m+1=>by simp only [ak_,ad_,ae_];exact hI_ (n+1) m
theorem sX_ {a:AV} (h:okC a=true):okI a=true:=by cases a<;>first|(exact h)|(simp [okC]at h)
variable [Gl]
theorem pure_sym {P:Program} {f:FuncId} {args args' ls:List AV} {v:AV} (hok:mO_ args=true) (hv:aX_ v=true) (hso:ad_ args'=true) (hls:okL ls=true)
  (hden:∀Y,Fresh Y 64->ab_ (Y.puts 64 ls).v args'=args) (h:∀Y,Fresh Y 64->Gl.gt Y.v->SemCallF P 0 (Y.puts 64 ls) f args' H0 (hT_ (· =v))):jD_ P f args v:=by
 intro H B pr E w vs hg hr hc
 let Yg:Sy:=⟨λi=>if i<64 then E.sy i else none,λ_=>none⟩
 have hfr:Fresh Yg 64:=⟨ze' _,λi hi=>if_neg (by omega)⟩;have hlow:∀i,i<64->Yg.v i=E.sy i:=λi hi=>if_pos hi;have hgt:Gl.gt Yg.v:=Gl.gtm _ _ hlow hg.2;obtain ⟨p1,p2,p3,p4⟩:=hfr.puts ls
 let E1:Env:=⟨λ_=>none,E.sz,E.imm,λ_=>False,E.imm,(Yg.puts 64 ls).v,(Yg.puts 64 ls).l,λ_=>False⟩
 have hlow1:∀i,i<64->E1.sy i=E.sy i:=λi hi=>(p4 i hi).trans (hlow i hi);have hg1:GlOk E1:=⟨λg=>co_ (E:=E) (E':=E1) (λ_ _ _ h=>h) (λi a hi hx=>(hlow1 i hi).trans hx) (Gl.nr g) (hg.1 g),Gl.gtm _ _ hlow1 hg.2⟩
 have hrel:Rel w (λb=>b<w.heap.size) E1 H0 w:={
  own:=⟨λ_=>none,λid k hk=>(ld_ hk).elim,λ_ _=>rfl,λ_ _ _ _=>rfl⟩
  imm:=hr.imm
  ib:=λ_ _ _ _ h=>h
  fresh:=λ_ _ _=>rfl
  resv:=λ_ h=>h.elim
  vds:=λ_ h=>h.elim
  szs:=hr.szs
  prot:=λb h=>⟨h,rfl⟩
  size:=ze' _
  os:=rfl
  output:=rfl }
 have hone:∀i a,E1.sy i=some a->a.one=true:=λi a hx=>by
  rcases i9_ ls i a hx with hx|hx
  .by_cases hi:i<64
   .grind [Gl.gto]
   grind
  grind [bo_,cS_]
 have hcon:ConL E1 args' vs:=by refine c5_ hone hso ?_;have:ab_ E1.sy args'=args:=hden Yg hfr;rw [this];exact bB_ (E:=E) (E':=E1) (λ_ _ _ h=>h) (kt_ hok hc)
 refine Calls.mono (h Yg hfr hgt w (λb=>b<w.heap.size) E1 w vs ⟨rfl,rfl,λ_ h=>h⟩ hg1 hrel hcon) λe w' he=>?_;obtain ⟨Y',r,⟨a,H1,v',m,rfl,hs,hso',hQ⟩,E',hle,hy',u,rfl,h1,h2⟩:=he;obtain ⟨E2,f1,f2,f3,f4,_,f5,f6⟩:=h2.freeze;have hcon2:=m9_ h2 f1 f6 m _ _ _ hs h1;have hv0:Con0 E2 v u:=by have:=an_ hso' hcon2;rw [f1.2.2.2.1,hy'.v,hQ]at this;exact this
 obtain ⟨own,g1,g2,g3⟩:=hr.own;have hsz:∀b n,E.sz b=some n->E2.sz b=some n:=λb n hx=>f1.2.1 b n (hle.sz b n hx);have him:∀b o v,E.imm b o=some v->E2.imm b o=some v:=λb o v hx=>f1.2.2.1 b o v (hle.imm b o v hx);have hold:∀b o v,b<w.heap.size->E2.imm b o=some v->E.imm b o=some v:=λb o v hb hx=>by have:=f5.ib b o v hb hx;rw [f4,hle.bim]at this;exact this
 refine ⟨⟨E.φ,E2.sz,E2.imm,E.res,E.bim,E.sy,E.syl,E.vd⟩,⟨⟨λ_ _ h=>h,hsz,him,rfl,rfl⟩,rfl,rfl,rfl⟩,u,rfl,(b7_ (E:=E2) (E':=⟨E.φ,E2.sz,E2.imm,E.res,E.bim,E.sy,E.syl,E.vd⟩) (λ_ _ _ h=>h) hv0).con,?_⟩;have hsub:E.sub ⟨E.φ,E2.sz,E2.imm,E.res,E.bim,E.sy,E.syl,E.vd⟩:=⟨λ_ _ h=>h,hsz,him,rfl,rfl⟩
 refine { own:=⟨λb=>if b<w.heap.size then own b else none,λid k hk=>?_,λb hb=>?_,λb o v hx=>?_⟩,imm:=f5.imm,ib:=λb o v hb hx=>?_,fresh:=hr.fresh,resv:=hr.resv,vds:=hr.vds,szs:=f5.szs,prot:=λb hb=>?_,
          size:=Nat.le_trans hr.size h2.size,os:=h2.os.trans hr.os,output:=h2.output.trans hr.output }
 exact (g1 id k hk).imp (λ_ h=>h) (λh=>h) λb o e1 e2 e3=>⟨(if_pos e3.lt).trans e2,e3.sub hsub (h2.prot b e3.lt).2⟩
 .grind
 .grind
 have hlt:=zf' (hr.prot b hb).1 hr.size;exact hr.ib b o v hb (hold b o v hlt hx);obtain ⟨e1,e2⟩:=hr.prot b hb;exact ⟨e1,(h2.prot b (zf' e1 hr.size)).2.trans e2⟩
end Go.Sx
namespace Go.Sx
variable [Gl]
omit [Gl]in
theorem s8_ {P:Program} {k:IntKind} {x c r:Int} (hc:c≠0) (hr:x.tmod c=r) (t:TypeId) (cx cy:Bool):bD_ P .rem t cx cy (.int k x) (.int k c)=some (.int k r):=by subst hr;show cM_ P .rem k x k c=_;have hb:Nat.beq (kix k) (kix k)=true:=zd' _;unfold cM_;rw [hb];unfold gK_;simp only [binOp,Op.intDiv,hc,ne_eq,not_true_eq_false,if_false];rfl
end Go.Sx
