/-
  Readings: symbols are put in, values that are known to the end, states that are known in another way.
-/
import Derived.Test.YtmgenobllanmjaaGreatDoorSyA
set_option linter.unusedVariables false
set_option linter.unusedSimpArgs false
namespace Go.Sx
mutual
def den (s:Nat->Option AV):AV->AV
 | .sym i=>match s i with
   |some a=>a
   |none=>.opq
 | .vptr cs=>.vptr (ab_ s cs)
 | .vsl n z cs=>.vsl n z (ab_ s cs)
 | .fn f cs=>.fn f (ab_ s cs)
 | .iface t a=>.iface t (den s a)
 | .agg cs=>.agg (ab_ s cs)
 | .tup cs=>.tup (ab_ s cs)
 |a=>a
def ab_ (s:Nat->Option AV):List AV->List AV
 |[]=>[]
 |a::r=>den s a::ab_ s r
end
mutual
def ae_:AV->Bool
 | .opq| .ptr _ _| .sl _ _ _ _ _| .map _| .slx _ _ _| .ptx _ _ _ _=>false
 | .vptr cs=>ad_ cs
 | .vsl _ _ cs=>ad_ cs
 | .fn _ cs=>ad_ cs
 | .iface _ a=>ae_ a
 | .agg cs=>ad_ cs
 | .tup cs=>ad_ cs
 |_=>true
def ad_:List AV->Bool
 |[]=>true
 |a::r=>match ae_ a with
  |true=>ad_ r
  |false=>false
end
mutual
def okC:AV->Bool
 | .bool _| .int _ _| .flt _ _| .nan _| .str _| .nptr| .nsl| .nmap| .nfn| .nif=>true
 | .vptr cs=>okL cs
 | .vsl _ _ cs=>okL cs
 | .fn _ cs=>okL cs
 | .iface _ a=>okI a
 |_=>false
def okI:AV->Bool
 | .agg cs=>okL cs
 | .bool _| .int _ _| .flt _ _| .nan _| .str _| .nptr| .nsl| .nmap| .nfn| .nif=>true
 | .vptr cs=>okL cs
 | .vsl _ _ cs=>okL cs
 | .fn _ cs=>okL cs
 | .iface _ a=>okI a
 |_=>false
def okL:List AV->Bool
 |[]=>true
 |a::r=>match okC a with
  |true=>okL r
  |false=>false
end
theorem a0_ {a:AV} {r:List AV}:okL (a::r)=(okC a&&okL r):=by
 grind [okL]
theorem ba_ {a:AV} (h:okC a=true):a.one=true:=by cases a<;>first|rfl|(simp [okC]at h)
mutual
theorem ao_ {E:Env}:∀{a:AV} {v:Value},ae_ a=true->Con E a v->Con0 E (den E.sy a) v
 | .opq,_,h,_=>by simp [ae_]at h
 | .bool _,_,_,hc=>by grind [den,Con0,Con]
 | .int _ _,_,_,hc=>by grind [den,Con0,Con]
 | .flt _ _,_,_,hc=>by grind [den,Con0,Con]
 | .nan _,_,_,hc=>by grind [den,Con0,Con]
 | .str _,_,_,hc=>by grind [den,Con0,Con]
 | .nptr,_,_,hc=>by grind [den,Con0,Con]
 | .ptr id off,v,h,hc=>by simp [ae_]at h
 | .vptr cs,v,h,hc=>by simp only [ae_]at h;simp only [Con]at hc;simp only [den,Con0];obtain ⟨b,o,vs,h1,h2,h3⟩:=hc;exact ⟨b,o,vs,h1,bQ_ h h2,h3⟩
 | .nsl,_,_,hc=>by grind [den,Con0,Con]
 | .sl ..,v,h,hc=>by simp [ae_]at h
 | .vsl _ _ cs,v,h,hc=>by obtain ⟨b,o,vs,c,h1,h2,h3,h4⟩:=hc;exact ⟨b,o,vs,c,h1,h2,bQ_ h h3,h4⟩
 | .nmap,_,_,hc=>by grind [den,Con0,Con]
 | .map id,v,h,hc=>by simp [ae_]at h
 | .nfn,_,_,hc=>by grind [den,Con0,Con]
 | .fn f cap,v,h,hc=>by simp only [ae_]at h;simp only [Con]at hc;simp only [den,Con0];obtain ⟨vs,h1,h2⟩:=hc;exact ⟨vs,h1,bQ_ h h2⟩
 | .nif,_,_,hc=>by grind [den,Con0,Con]
 | .iface t a,v,h,hc=>by simp only [ae_]at h;simp only [Con]at hc;simp only [den,Con0];obtain ⟨u,h1,h2⟩:=hc;exact ⟨u,h1,ao_ h h2⟩
 | .agg cs,v,h,hc=>by simp only [ae_]at h;simp only [Con]at hc;simp only [den,Con0];obtain ⟨vs,h1,h2⟩:=hc;exact ⟨vs,h1,bQ_ h h2⟩
 | .tup cs,v,h,hc=>by simp only [ae_]at h;simp only [Con]at hc;simp only [den,Con0];obtain ⟨vs,h1,h2⟩:=hc;exact ⟨vs,h1,bQ_ h h2⟩
 | .sym i,v,h,hc=>by
   grind [Con,den]
 | .slx ..,v,h,hc=>by simp [ae_]at h
 | .ptx ..,v,h,hc=>by simp [ae_]at h
theorem bQ_ {E:Env}:∀{as:List AV} {vs:List Value},ad_ as=true->ConL E as vs->Con0L E (ab_ E.sy as) vs
 |[],_,_,hc=>by grind [ab_,ConL,Con0L]
 |a::as,vs,h,hc=>by
  simp only [ad_]at h;simp only [ConL]at hc;simp only [ab_,Con0L];obtain ⟨v,r,h1,h2,h3⟩:=hc;cases ha:ae_ a with
  |true=>rw [ha]at h;exact ⟨v,r,h1,ao_ ha h2,bQ_ h h3⟩
  |false=>rw [ha]at h;cases h
end
mutual
theorem oS_ {E:Env} (ho:∀i a,E.sy i=some a->a.one=true):∀{a:AV} {v:Value},ae_ a=true->Con0 E (den E.sy a) v->Con E a v
 | .opq,_,h,_=>by simp [ae_]at h
 | .bool _,_,_,hc=>by grind [den,Con0,Con]
 | .int _ _,_,_,hc=>by grind [den,Con0,Con]
 | .flt _ _,_,_,hc=>by grind [den,Con0,Con]
 | .nan _,_,_,hc=>by grind [den,Con0,Con]
 | .str _,_,_,hc=>by grind [den,Con0,Con]
 | .nptr,_,_,hc=>by grind [den,Con0,Con]
 | .ptr id off,v,h,hc=>by simp [ae_]at h
 | .vptr cs,v,h,hc=>by simp only [ae_]at h;simp only [den,Con0]at hc;simp only [Con];obtain ⟨b,o,vs,h1,h2,h3⟩:=hc;exact ⟨b,o,vs,h1,dc_ ho h h2,h3⟩
 | .nsl,_,_,hc=>by grind [den,Con0,Con]
 | .sl ..,v,h,hc=>by simp [ae_]at h
 | .vsl _ _ cs,v,h,hc=>by obtain ⟨b,o,vs,c,h1,h2,h3,h4⟩:=hc;exact ⟨b,o,vs,c,h1,h2,dc_ ho h h3,h4⟩
 | .nmap,_,_,hc=>by grind [den,Con0,Con]
 | .map id,v,h,hc=>by simp [ae_]at h
 | .nfn,_,_,hc=>by grind [den,Con0,Con]
 | .fn f cap,v,h,hc=>by simp only [ae_]at h;simp only [den,Con0]at hc;simp only [Con];obtain ⟨vs,h1,h2⟩:=hc;exact ⟨vs,h1,dc_ ho h h2⟩
 | .nif,_,_,hc=>by grind [den,Con0,Con]
 | .iface t a,v,h,hc=>by simp only [ae_]at h;simp only [den,Con0]at hc;simp only [Con];obtain ⟨u,h1,h2⟩:=hc;exact ⟨u,h1,oS_ ho h h2⟩
 | .agg cs,v,h,hc=>by simp only [ae_]at h;simp only [den,Con0]at hc;simp only [Con];obtain ⟨vs,h1,h2⟩:=hc;exact ⟨vs,h1,dc_ ho h h2⟩
 | .tup cs,v,h,hc=>by simp only [ae_]at h;simp only [den,Con0]at hc;simp only [Con];obtain ⟨vs,h1,h2⟩:=hc;exact ⟨vs,h1,dc_ ho h h2⟩
 | .sym i,v,h,hc=>by
   grind [den,Con,Con0]
 | .slx ..,v,h,hc=>by simp [ae_]at h
 | .ptx ..,v,h,hc=>by simp [ae_]at h
theorem dc_ {E:Env} (ho:∀i a,E.sy i=some a->a.one=true):∀{as:List AV} {vs:List Value},ad_ as=true->Con0L E (ab_ E.sy as) vs->ConL E as vs
 |[],_,_,hc=>by grind [ab_,ConL,Con0L]
 |a::as,vs,h,hc=>by
  simp only [ad_]at h;simp only [ab_,Con0L]at hc;simp only [ConL];obtain ⟨v,r,h1,h2,h3⟩:=hc;cases ha:ae_ a with
  |true=>rw [ha]at h;exact ⟨v,r,h1,oS_ ho ha h2,dc_ ho h h3⟩
  |false=>rw [ha]at h;cases h
end
mutual
theorem bD_ {E:Env}:∀{a:AV} {v:Value},okC a=true->Con E a v->Con0 E a v
 | .opq,_,h,_=>by simp [okC]at h
 | .bool _,_,_,hc=>by grind [Con0,Con]
 | .int _ _,_,_,hc=>by grind [Con0,Con]
 | .flt _ _,_,_,hc=>by grind [Con0,Con]
 | .nan _,_,_,hc=>by grind [Con0,Con]
 | .str _,_,_,hc=>by grind [Con0,Con]
 | .nptr,_,_,hc=>by grind [Con0,Con]
 | .ptr _ _,_,h,_=>by simp [okC]at h
 | .vptr cs,v,h,hc=>by simp only [okC]at h;simp only [Con]at hc;simp only [Con0];obtain ⟨b,o,vs,h1,h2,h3⟩:=hc;exact ⟨b,o,vs,h1,bl_ h h2,h3⟩
 | .nsl,_,_,hc=>by grind [Con0,Con]
 | .sl ..,_,h,_=>by simp [okC]at h
 | .vsl _ _ cs,v,h,hc=>by obtain ⟨b,o,vs,c,h1,h2,h3,h4⟩:=hc;exact ⟨b,o,vs,c,h1,h2,bl_ h h3,h4⟩
 | .nmap,_,_,hc=>by grind [Con0,Con]
 | .map _,_,h,_=>by simp [okC]at h
 | .nfn,_,_,hc=>by grind [Con0,Con]
 | .fn f cap,v,h,hc=>by simp only [okC]at h;simp only [Con]at hc;simp only [Con0];obtain ⟨vs,h1,h2⟩:=hc;exact ⟨vs,h1,bl_ h h2⟩
 | .nif,_,_,hc=>by grind [Con0,Con]
 | .iface t a,v,h,hc=>by simp only [okC]at h;simp only [Con]at hc;simp only [Con0];obtain ⟨u,h1,h2⟩:=hc;exact ⟨u,h1,ji_ h h2⟩
 | .agg _,_,h,_=>by simp [okC]at h
 | .tup _,_,h,_=>by simp [okC]at h
 | .sym _,_,h,_=>by simp [okC]at h
 | .slx ..,_,h,_=>by simp [okC]at h
 | .ptx ..,_,h,_=>by simp [okC]at h
theorem ji_ {E:Env}:∀{a:AV} {v:Value},okI a=true->Con E a v->Con0 E a v
 | .opq,_,h,_=>by simp [okI]at h
 | .bool _,_,_,hc=>by grind [Con0,Con]
 | .int _ _,_,_,hc=>by grind [Con0,Con]
 | .flt _ _,_,_,hc=>by grind [Con0,Con]
 | .nan _,_,_,hc=>by grind [Con0,Con]
 | .str _,_,_,hc=>by grind [Con0,Con]
 | .nptr,_,_,hc=>by grind [Con0,Con]
 | .ptr _ _,_,h,_=>by simp [okI]at h
 | .vptr cs,v,h,hc=>by simp only [okI]at h;simp only [Con]at hc;simp only [Con0];obtain ⟨b,o,vs,h1,h2,h3⟩:=hc;exact ⟨b,o,vs,h1,bl_ h h2,h3⟩
 | .nsl,_,_,hc=>by grind [Con0,Con]
 | .sl ..,_,h,_=>by simp [okI]at h
 | .vsl _ _ cs,v,h,hc=>by obtain ⟨b,o,vs,c,h1,h2,h3,h4⟩:=hc;exact ⟨b,o,vs,c,h1,h2,bl_ h h3,h4⟩
 | .nmap,_,_,hc=>by grind [Con0,Con]
 | .map _,_,h,_=>by simp [okI]at h
 | .nfn,_,_,hc=>by grind [Con0,Con]
 | .fn f cap,v,h,hc=>by simp only [okI]at h;simp only [Con]at hc;simp only [Con0];obtain ⟨vs,h1,h2⟩:=hc;exact ⟨vs,h1,bl_ h h2⟩
 | .nif,_,_,hc=>by grind [Con0,Con]
 | .iface t a,v,h,hc=>by simp only [okI]at h;simp only [Con]at hc;simp only [Con0];obtain ⟨u,h1,h2⟩:=hc;exact ⟨u,h1,ji_ h h2⟩
 | .agg cs,v,h,hc=>by simp only [okI]at h;simp only [Con]at hc;simp only [Con0];obtain ⟨vs,h1,h2⟩:=hc;exact ⟨vs,h1,bl_ h h2⟩
 | .tup _,_,h,_=>by simp [okI]at h
 | .sym _,_,h,_=>by simp [okI]at h
 | .slx ..,_,h,_=>by simp [okI]at h
 | .ptx ..,_,h,_=>by simp [okI]at h
theorem bl_ {E:Env}:∀{as:List AV} {vs:List Value},okL as=true->ConL E as vs->Con0L E as vs
 |[],_,_,hc=>by grind [Con0L,ConL]
 |a::as,vs,h,hc=>by rw [a0_]at h;obtain ⟨h1,h2⟩:=aa_ h;simp only [ConL]at hc;simp only [Con0L];obtain ⟨v,r,e,c1,c2⟩:=hc;exact ⟨v,r,e,bD_ h1 c1,bl_ h2 c2⟩
end
def Env.with (E:Env) (Y:Sy):Env:={ E with sy:=Y.v,syl:=Y.l }
theorem Con0.with {E:Env} {Y:Sy} {a:AV} {v:Value} (h:Con0 E a v):Con0 (E.with Y) a v:=ce_ (E:=E) (E':=E.with Y) (λ_ _ _ h=>h) h
mutual
theorem Con.with {E:Env} {Y:Sy} (hv:∀i a,E.sy i=some a->Y.v i=some a) (hl:∀i l,E.syl i=some l->Y.l i=some l):∀{a:AV} {v:Value},Con E a v->Con (E.with Y) a v
 | .opq,_,_=>by simp [Con]
 | .bool _,_,hc=>by grind [Con]
 | .int _ _,_,hc=>by grind [Con]
 | .flt _ _,_,hc=>by grind [Con]
 | .nan _,_,hc=>by grind [Con]
 | .str _,_,hc=>by grind [Con]
 | .nptr,_,hc=>by grind [Con]
 | .ptr id off,v,hc=>by simpa [Con,Env.with]using hc
 | .vptr cs,v,hc=>by obtain ⟨b,o,vs,h1,h2,h3⟩:=hc;exact ⟨b,o,vs,h1,ConL.with hv hl h2,h3⟩
 | .nsl,_,hc=>by grind [Con]
 | .sl ..,v,hc=>by simpa [Con,Env.with]using hc
 | .vsl ..,v,hc=>by obtain ⟨b,o,vs,c,h1,h2,h3,h4⟩:=hc;exact ⟨b,o,vs,c,h1,h2,ConL.with hv hl h3,h4⟩
 | .nmap,_,hc=>by grind [Con]
 | .map id,v,hc=>by simpa [Con,Env.with]using hc
 | .nfn,_,hc=>by grind [Con]
 | .fn f cap,v,hc=>by simp only [Con]at hc⊢;obtain ⟨vs,h1,h2⟩:=hc;exact ⟨vs,h1,ConL.with hv hl h2⟩
 | .nif,_,hc=>by grind [Con]
 | .iface t a,v,hc=>by simp only [Con]at hc⊢;obtain ⟨u,h1,h2⟩:=hc;exact ⟨u,h1,Con.with hv hl h2⟩
 | .agg cs,v,hc=>by simp only [Con]at hc⊢;obtain ⟨vs,h1,h2⟩:=hc;exact ⟨vs,h1,ConL.with hv hl h2⟩
 | .tup cs,v,hc=>by simp only [Con]at hc⊢;obtain ⟨vs,h1,h2⟩:=hc;exact ⟨vs,h1,ConL.with hv hl h2⟩
 | .sym i,v,hc=>by obtain ⟨a,h1,h2,h3⟩:=hc;exact ⟨a,hv _ _ h1,h2,h3.with⟩
 | .slx id sz i,v,hc=>by obtain ⟨a,h1,h2⟩:=hc;exact ⟨a,hv _ _ h1,h2⟩
 | .ptx id j sz off,v,hc=>by obtain ⟨k,n,h1,h2⟩:=hc;exact ⟨k,n,hv _ _ h1,h2⟩
theorem ConL.with {E:Env} {Y:Sy} (hv:∀i a,E.sy i=some a->Y.v i=some a) (hl:∀i l,E.syl i=some l->Y.l i=some l):∀{as:List AV} {vs:List Value},ConL E as vs->ConL (E.with Y) as vs
 |[],_,hc=>by grind [ConL]
 |a::as,vs,hc=>by simp only [ConL]at hc⊢;obtain ⟨v,r,h1,h2,h3⟩:=hc;exact ⟨v,r,h1,Con.with hv hl h2,ConL.with hv hl h3⟩
end
theorem ConE.with {E:Env} {Y:Sy} (hv:∀i a,E.sy i=some a->Y.v i=some a) (hl:∀i l,E.syl i=some l->Y.l i=some l):∀{as:List (AV×AV×Nat)} {es:List MapEntry},ConE E as es->ConE (E.with Y) as es
 |[],_,hc=>hc
 |(k,v,n)::as,es,hc=>by simp only [ConE]at hc⊢;obtain ⟨e,r,h1,h2,h3,h4,h5⟩:=hc;exact ⟨e,r,h1,h2.with hv hl,h3.with hv hl,h4,ConE.with hv hl h5⟩
theorem RowAt.withS {E:Env} {w:World} {own:Nat->Option Nat} {id:Nat} {k:ABlk} (h:RowAt E w own id k) {Y:Sy} (hv:∀i a,E.sy i=some a->Y.v i=some a) (hl:∀i l,E.syl i=some l->Y.l i=some l):RowAt (E.with Y) w own id k:=by
 refine h.imp (λ_ h=>h) (λh=>⟨h.1,h.2.sub λi hi=>hv i _ hi⟩) λb o h1 h2 h3=>⟨h2,?_⟩;cases k with
 |cells cs=>obtain ⟨arr,t,e1,e2,e3,e4⟩:=h3;refine ⟨arr,t,e1,e2,e3,λi a ha=>?_⟩;obtain ⟨v,hv',hc⟩:=e4 i a ha;exact ⟨v,hv',hc.with hv hl⟩
 |map es c=>obtain ⟨h0,es',e1,e2⟩:=h3;exact ⟨h0,es',e1,e2.with hv hl⟩
 |syl j=>obtain ⟨len,sz,cs,h0,hlen,arr,t,e1,e2,e3,e4⟩:=h3;refine ⟨len,sz,cs,hv _ _ h0,hlen,arr,t,e1,e2,e3,λi a ha=>?_⟩;obtain ⟨v,hv',ho,hc⟩:=e4 i a ha;exact ⟨v,hv',ho,hc.with⟩
 |fz cs=>obtain ⟨arr,t,fr,e1,e2,e3,e5,e4⟩:=h3;refine ⟨arr,t,fr,e1,e2,e3,e5,λi a ha=>?_⟩;obtain ⟨v,hv',hc⟩:=e4 i a ha;exact ⟨v,hv',hc.with hv hl⟩
 |mpl j=>obtain ⟨h0,n,cs,e1,es',clock,e2,e3,e4⟩:=h3;exact ⟨h0,n,cs,hv _ _ e1,es',clock,e2,e3,e4.imp λ_ _ hc=>hc.with⟩
theorem Rel.with {B:World} {pr:Nat->Prop} {E:Env} {H:AHeap} {w:World} (h:Rel B pr E H w) {Y:Sy} (hv:∀i a,E.sy i=some a->Y.v i=some a) (hl:∀i l,E.syl i=some l->Y.l i=some l):
  Rel B pr (E.with Y) H w:=by
 obtain ⟨own,g1,g2,g3⟩:=h.own;refine { own:=⟨own,λid k hk=>?_,g2,g3⟩,imm:=h.imm,ib:=h.ib,fresh:=h.fresh,resv:=h.resv,vds:=h.vds,szs:=h.szs,prot:=h.prot,size:=h.size,os:=h.os,output:=h.output };exact (g1 id k hk).withS hv hl
theorem Env.with_leF (k:Nat) {E:Env} {Y:Sy} (hv:∀i,i<64->Y.v i=E.sy i):E.leF k (E.with Y):=⟨λ_ _ _ h=>h,λ_ _ h=>h,λ_ _ _ h=>h,rfl,hv⟩
section
variable [Gl]
theorem GlOk.leF {k:Nat} {E E':Env} (h:GlOk E) (hle:E.leF k E'):GlOk E':=
 ⟨λg=>cy_ hle.imm (λi a hi hx=>(hle.sy i hi).trans hx) (Gl.nr g) (h.1 g),Gl.gtm _ _ hle.sy h.2⟩
omit [Gl]in
theorem DRel.with {P:Program} {E:Env} {Y:Sy} (hv:∀i a,E.sy i=some a->Y.v i=some a) (hl:∀i l,E.syl i=some l->Y.l i=some l):∀{D:Dfs} {ds:List Deferred},DRel P E D ds->DRel P (E.with Y) D ds
 |[],ds,hd=>hd
 |(f,args)::D,ds,hd=>by obtain ⟨vs,r,h1,h2,h3,h4⟩:=hd;exact ⟨vs,r,h1,h2.with hv hl,h3,h4.with hv hl⟩
theorem St.with {P:Program} {B:World} {pr:Nat->Prop} {N:Nat} {E:Env} {T:Tm} {H:AHeap} {D:Dfs} {a:Act} {w:World} (st:St P B pr N E T H D a w) {Y:Sy}
  (hv:∀i a,E.sy i=some a->Y.v i=some a) (hl:∀i l,E.syl i=some l->Y.l i=some l) (hlo:∀i,i<64->Y.v i=E.sy i):St P B pr N (E.with Y) T H D a w:=
 ⟨⟨st.t.size,st.t.le,λt ht=>(st.t.con t ht).with hv hl,st.t.gl.leF (Env.with_leF 0 hlo)⟩,st.r.with hv hl,st.d.with hv hl⟩
end
def Sy.put (Y:Sy) (n:Nat) (a:AV):Sy:={ Y with v:=λi=>if i=n then some a else Y.v i }
def Sy.puts (Y:Sy):Nat->List AV->Sy
 |_,[]=>Y
 |n,a::r=>(Y.put n a).puts (n+1) r
theorem Sy.put_same (Y:Sy) (n:Nat) (a:AV):(Y.put n a).v n=some a:=by simp [Sy.put]
theorem Sy.put_ne (Y:Sy) {n i:Nat} (a:AV) (h:i≠n):(Y.put n a).v i=Y.v i:=by simp [Sy.put,h]
def Fresh (Y:Sy) (n:Nat):Prop:=64<=n/\∀i,n<=i->Y.v i=none
theorem Fresh.put {Y:Sy} {n:Nat} (h:Fresh Y n) (a:AV):Fresh (Y.put n a) (n+1):=⟨by have:=h.1;omega,λi hi=>by rw [Sy.put_ne _ _ (by omega)];exact h.2 i (by omega)⟩
theorem Fresh.low {Y:Sy} {n:Nat} (h:Fresh Y n) (a:AV) (i:Nat) (hi:i<64):(Y.put n a).v i=Y.v i:=Sy.put_ne _ _ (by have:=h.1;omega)
theorem Fresh.sub_put {Y:Sy} {n:Nat} (h:Fresh Y n) (a:AV):∀i x,Y.v i=some x->(Y.put n a).v i=some x:=λi x hx=>by
 have:i≠n:=λe=>by rw [e,h.2 n (Nat.le_refl _)]at hx;cases hx
 grind [Sy.put_ne]
theorem Fresh.puts:∀{Y:Sy} {n:Nat} (l:List AV),Fresh Y n->Fresh (Y.puts n l) (n+l.length)/\(∀i x,Y.v i=some x->(Y.puts n l).v i=some x)/\(Y.puts n l).l=Y.l/\∀i,i<64->(Y.puts n l).v i=Y.v i
 |Y,n,[],h=>⟨by simpa [Sy.puts]using h,λ_ _ h=>h,rfl,λ_ _=>rfl⟩
 |Y,n,a::r,h=>by obtain ⟨h1,h2,h3,h4⟩:=Fresh.puts (Y:=Y.put n a) (n:=n+1) r (h.put a);refine ⟨?_,λi x hx=>h2 i x (h.sub_put a i x hx),h3,λi hi=>(h4 i hi).trans (h.low a i hi)⟩;have:n+(a::r).length=n+1+r.length:=(by simp;omega);rw [this];exact h1
def ag_:Nat->Nat->List AV
 |_,0=>[]
 |n,m+1=>.sym n::ag_ (Nat.succ n) m
theorem bB_:∀{Y:Sy} {n:Nat} (l:List AV),Fresh Y n->∀i a,l[i]? =some a->(Y.puts n l).v (n+i)=some a
 |Y,n,[],h,i,a,ha=>by simp at ha
 |Y,n,b::r,h,i,a,ha=>by
  show ((Y.put n b).puts (n+1) r).v (n+i)=some a;cases i with
  |zero=>simp only [List.getElem?_cons_zero]at ha;cases ha;exact (Fresh.puts (Y:=Y.put n b) (n:=n+1) r (h.put b)).2.1 n b (Sy.put_same _ _ _)
  |succ i=>simp only [List.getElem?_cons_succ]at ha;have:=bB_ (Y:=Y.put n b) (n:=n+1) r (h.put b) i a ha;rw [show n+(i+1)=n+1+i by omega];exact this
theorem bC_ {E:Env}:∀(n:Nat) (l:List AV) (vs:List Value),okL l=true->(∀i a,l[i]? =some a->E.sy (n+i)=some a)->Con0L E l vs->ConL E (ag_ n l.length) vs
 |n,[],vs,_,_,hc=>by grind [ag_,ConL,Con0L]
 |n,a::r,vs,hk,hs,hc=>by
  rw [a0_]at hk;obtain ⟨k1,k2⟩:=aa_ hk;obtain ⟨v,q,rfl,h1,h2⟩:=hc;refine ⟨v,q,rfl,?_,bC_ (n+1) r q k2 (λi b hb=>?_) h2⟩;exact ⟨a,by simpa using hs 0 a rfl,ba_ k1,h1⟩
  .have:=hs (i+1) b (by grind)
   grind
mutual
theorem ia_ (s:Nat->Option AV):∀{a:AV},okC a=true->den s a=a
 | .bool _,_=>rfl
 | .int _ _,_=>rfl
 | .flt _ _,_=>rfl
 | .nan _,_=>rfl
 | .str _,_=>rfl
 | .nptr,_=>rfl
 | .nsl,_=>rfl
 | .nmap,_=>rfl
 | .nfn,_=>rfl
 | .nif,_=>rfl
 | .vptr cs,h=>by simp only [okC]at h;simp only [den];rw [a3_ s h]
 | .vsl _ _ cs,h=>by simp only [okC]at h;simp only [den];rw [a3_ s h]
 | .fn _ cs,h=>by simp only [okC]at h;simp only [den];rw [a3_ s h]
 | .iface _ a,h=>by simp only [okC]at h;simp only [den];rw [ib_ s h]
 | .opq,h=>by simp [okC]at h
 | .ptr ..,h=>by simp [okC]at h
 | .sl ..,h=>by simp [okC]at h
 | .map ..,h=>by simp [okC]at h
 | .agg ..,h=>by simp [okC]at h
 | .tup ..,h=>by simp [okC]at h
 | .sym ..,h=>by simp [okC]at h
 | .slx ..,h=>by simp [okC]at h
 | .ptx ..,h=>by simp [okC]at h
theorem ib_ (s:Nat->Option AV):∀{a:AV},okI a=true->den s a=a
 | .bool _,_=>rfl
 | .int _ _,_=>rfl
 | .flt _ _,_=>rfl
 | .nan _,_=>rfl
 | .str _,_=>rfl
 | .nptr,_=>rfl
 | .nsl,_=>rfl
 | .nmap,_=>rfl
 | .nfn,_=>rfl
 | .nif,_=>rfl
 | .vptr cs,h=>by simp only [okI]at h;simp only [den];rw [a3_ s h]
 | .vsl _ _ cs,h=>by simp only [okI]at h;simp only [den];rw [a3_ s h]
 | .fn _ cs,h=>by simp only [okI]at h;simp only [den];rw [a3_ s h]
 | .iface _ a,h=>by simp only [okI]at h;simp only [den];rw [ib_ s h]
 | .agg cs,h=>by simp only [okI]at h;simp only [den];rw [a3_ s h]
 | .opq,h=>by simp [okI]at h
 | .ptr ..,h=>by simp [okI]at h
 | .sl ..,h=>by simp [okI]at h
 | .map ..,h=>by simp [okI]at h
 | .tup ..,h=>by simp [okI]at h
 | .sym ..,h=>by simp [okI]at h
 | .slx ..,h=>by simp [okI]at h
 | .ptx ..,h=>by simp [okI]at h
theorem a3_ (s:Nat->Option AV):∀{l:List AV},okL l=true->ab_ s l=l
 |[],_=>rfl
 |a::r,h=>by rw [a0_]at h;obtain ⟨h1,h2⟩:=aa_ h;simp only [ab_];rw [ia_ s h1,a3_ s h2]
end
end Go.Sx
