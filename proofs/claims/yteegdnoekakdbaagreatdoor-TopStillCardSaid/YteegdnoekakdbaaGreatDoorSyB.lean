/-
  Readings: symbols are put in, values that are known to the end, states that are known in another way.
-/
import Derived.Test.YteegdnoekakdbaaGreatDoorSxX
set_option linter.unusedVariables false
set_option linter.unusedSimpArgs false
namespace Go.Sx
mutual
def den (s:Nat->Option AV):AV->AV
 | .sym i=>match s i with
   |some a=>a
   |none=>.opq
 | .vptr cs=>.vptr (ab_ s cs)
 | .vsl n z cs=>.vsl n z (ab_ s cs)
 | .fn f cs=>.fn f (ab_ s cs)
 | .iface t a=>.iface t (den s a)
 | .agg cs=>.agg (ab_ s cs)
 | .tup cs=>.tup (ab_ s cs)
 |a=>a
def ab_ (s:Nat->Option AV):List AV->List AV
 |[]=>[]
 |a::r=>den s a::ab_ s r
end
mutual
def ae_:AV->Bool
 | .opq| .ptr _ _| .sl _ _ _ _ _| .map _| .slx _ _ _| .ptx _ _ _ _=>false
 | .vptr cs=>ad_ cs
 | .vsl _ _ cs=>ad_ cs
 | .fn _ cs=>ad_ cs
 | .iface _ a=>ae_ a
 | .agg cs=>ad_ cs
 | .tup cs=>ad_ cs
 |_=>true
def ad_:List AV->Bool
 |[]=>true
 |a::r=>match ae_ a with
  |true=>ad_ r
  |false=>false
end
mutual
def okC:AV->Bool
 | .bool _| .int _ _| .flt _ _| .nan _| .str _| .nptr| .nsl| .nmap| .nfn| .nif=>true
 | .vptr cs=>okL cs
 | .vsl _ _ cs=>okL cs
 | .fn _ cs=>okL cs
 | .iface _ a=>okI a
 |_=>false
def okI:AV->Bool
 | .agg cs=>okL cs
 | .bool _| .int _ _| .flt _ _| .nan _| .str _| .nptr| .nsl| .nmap| .nfn| .nif=>true
 | .vptr cs=>okL cs
 | .vsl _ _ cs=>okL cs
 | .fn _ cs=>okL cs
 | .iface _ a=>okI a
 |_=>false
def okL:List AV->Bool
 |[]=>true
 |a::r=>match okC a with
  |true=>okL r
  |false=>false
end
theorem bC_ {a:AV} {r:List AV}:okL (a::r)=(okC a&&okL r):=by
 grind [okL]
theorem be_ {a:AV} (h:okC a=true):a.one=true:=by cases a<;>first|rfl|(simp [okC]at h)
mutual
theorem ao_ {E:Env}:∀{a:AV} {v:Value},ae_ a=true->Con E a v->Con0 E (den E.sy a) v
 | .opq,_,h,_=>by simp [ae_]at h
 | .bool _,_,_,hc=>by grind [den,Con0,Con]
 | .int _ _,_,_,hc=>by grind [den,Con0,Con]
 | .flt _ _,_,_,hc=>by grind [den,Con0,Con]
 | .nan _,_,_,hc=>by grind [den,Con0,Con]
 | .str _,_,_,hc=>by grind [den,Con0,Con]
 | .nptr,_,_,hc=>by grind [den,Con0,Con]
 | .ptr id off,v,h,hc=>by simp [ae_]at h
 | .vptr cs,v,h,hc=>by simp only [ae_]at h;simp only [Con]at hc;simp only [den,Con0];obtain ⟨b,o,vs,h1,h2,h3⟩:=hc;exact ⟨b,o,vs,h1,bE_ h h2,h3⟩
 | .nsl,_,_,hc=>by grind [den,Con0,Con]
 | .sl ..,v,h,hc=>by simp [ae_]at h
 | .vsl _ _ cs,v,h,hc=>by obtain ⟨b,o,vs,c,h1,h2,h3,h4⟩:=hc;exact ⟨b,o,vs,c,h1,h2,bE_ h h3,h4⟩
 | .nmap,_,_,hc=>by grind [den,Con0,Con]
 | .map id,v,h,hc=>by simp [ae_]at h
 | .nfn,_,_,hc=>by grind [den,Con0,Con]
 | .fn f cap,v,h,hc=>by simp only [ae_]at h;simp only [Con]at hc;simp only [den,Con0];obtain ⟨vs,h1,h2⟩:=hc;exact ⟨vs,h1,bE_ h h2⟩
 | .nif,_,_,hc=>by grind [den,Con0,Con]
 | .iface t a,v,h,hc=>by simp only [ae_]at h;simp only [Con]at hc;simp only [den,Con0];obtain ⟨u,h1,h2⟩:=hc;exact ⟨u,h1,ao_ h h2⟩
 | .agg cs,v,h,hc=>by simp only [ae_]at h;simp only [Con]at hc;simp only [den,Con0];obtain ⟨vs,h1,h2⟩:=hc;exact ⟨vs,h1,bE_ h h2⟩
 | .tup cs,v,h,hc=>by simp only [ae_]at h;simp only [Con]at hc;simp only [den,Con0];obtain ⟨vs,h1,h2⟩:=hc;exact ⟨vs,h1,bE_ h h2⟩
 | .sym i,v,h,hc=>by
   grind [Con,den]
 | .slx ..,v,h,hc=>by simp [ae_]at h
 | .ptx ..,v,h,hc=>by simp [ae_]at h
theorem bE_ {E:Env}:∀{as:List AV} {vs:List Value},ad_ as=true->ConL E as vs->Con0L E (ab_ E.sy as) vs
 |[],_,_,hc=>by grind [ab_,ConL,Con0L]
 |a::as,vs,h,hc=>by
  simp only [ad_]at h;simp only [ConL]at hc;simp only [ab_,Con0L];obtain ⟨v,r,h1,h2,h3⟩:=hc;cases ha:ae_ a with
  |true=>rw [ha]at h;exact ⟨v,r,h1,ao_ ha h2,bE_ h h3⟩
  |false=>rw [ha]at h;cases h
end
mutual
theorem n8_ {E:Env} (ho:∀i a,E.sy i=some a->a.one=true):∀{a:AV} {v:Value},ae_ a=true->Con0 E (den E.sy a) v->Con E a v
 | .opq,_,h,_=>by simp [ae_]at h
 | .bool _,_,_,hc=>by grind [den,Con0,Con]
 | .int _ _,_,_,hc=>by grind [den,Con0,Con]
 | .flt _ _,_,_,hc=>by grind [den,Con0,Con]
 | .nan _,_,_,hc=>by grind [den,Con0,Con]
 | .str _,_,_,hc=>by grind [den,Con0,Con]
 | .nptr,_,_,hc=>by grind [den,Con0,Con]
 | .ptr id off,v,h,hc=>by simp [ae_]at h
 | .vptr cs,v,h,hc=>by simp only [ae_]at h;simp only [den,Con0]at hc;simp only [Con];obtain ⟨b,o,vs,h1,h2,h3⟩:=hc;exact ⟨b,o,vs,h1,cZ_ ho h h2,h3⟩
 | .nsl,_,_,hc=>by grind [den,Con0,Con]
 | .sl ..,v,h,hc=>by simp [ae_]at h
 | .vsl _ _ cs,v,h,hc=>by obtain ⟨b,o,vs,c,h1,h2,h3,h4⟩:=hc;exact ⟨b,o,vs,c,h1,h2,cZ_ ho h h3,h4⟩
 | .nmap,_,_,hc=>by grind [den,Con0,Con]
 | .map id,v,h,hc=>by simp [ae_]at h
 | .nfn,_,_,hc=>by grind [den,Con0,Con]
 | .fn f cap,v,h,hc=>by simp only [ae_]at h;simp only [den,Con0]at hc;simp only [Con];obtain ⟨vs,h1,h2⟩:=hc;exact ⟨vs,h1,cZ_ ho h h2⟩
 | .nif,_,_,hc=>by grind [den,Con0,Con]
 | .iface t a,v,h,hc=>by simp only [ae_]at h;simp only [den,Con0]at hc;simp only [Con];obtain ⟨u,h1,h2⟩:=hc;exact ⟨u,h1,n8_ ho h h2⟩
 | .agg cs,v,h,hc=>by simp only [ae_]at h;simp only [den,Con0]at hc;simp only [Con];obtain ⟨vs,h1,h2⟩:=hc;exact ⟨vs,h1,cZ_ ho h h2⟩
 | .tup cs,v,h,hc=>by simp only [ae_]at h;simp only [den,Con0]at hc;simp only [Con];obtain ⟨vs,h1,h2⟩:=hc;exact ⟨vs,h1,cZ_ ho h h2⟩
 | .sym i,v,h,hc=>by
   grind [den,Con,Con0]
 | .slx ..,v,h,hc=>by simp [ae_]at h
 | .ptx ..,v,h,hc=>by simp [ae_]at h
theorem cZ_ {E:Env} (ho:∀i a,E.sy i=some a->a.one=true):∀{as:List AV} {vs:List Value},ad_ as=true->Con0L E (ab_ E.sy as) vs->ConL E as vs
 |[],_,_,hc=>by grind [ab_,ConL,Con0L]
 |a::as,vs,h,hc=>by
  simp only [ad_]at h;simp only [ab_,Con0L]at hc;simp only [ConL];obtain ⟨v,r,h1,h2,h3⟩:=hc;cases ha:ae_ a with
  |true=>rw [ha]at h;exact ⟨v,r,h1,n8_ ho ha h2,cZ_ ho h h3⟩
  |false=>rw [ha]at h;cases h
end
mutual
theorem bB_ {E:Env}:∀{a:AV} {v:Value},okC a=true->Con E a v->Con0 E a v
 | .opq,_,h,_=>by simp [okC]at h
 | .bool _,_,_,hc=>by grind [Con0,Con]
 | .int _ _,_,_,hc=>by grind [Con0,Con]
 | .flt _ _,_,_,hc=>by grind [Con0,Con]
 | .nan _,_,_,hc=>by grind [Con0,Con]
 | .str _,_,_,hc=>by grind [Con0,Con]
 | .nptr,_,_,hc=>by grind [Con0,Con]
 | .ptr _ _,_,h,_=>by simp [okC]at h
 | .vptr cs,v,h,hc=>by simp only [okC]at h;simp only [Con]at hc;simp only [Con0];obtain ⟨b,o,vs,h1,h2,h3⟩:=hc;exact ⟨b,o,vs,h1,bf_ h h2,h3⟩
 | .nsl,_,_,hc=>by grind [Con0,Con]
 | .sl ..,_,h,_=>by simp [okC]at h
 | .vsl _ _ cs,v,h,hc=>by obtain ⟨b,o,vs,c,h1,h2,h3,h4⟩:=hc;exact ⟨b,o,vs,c,h1,h2,bf_ h h3,h4⟩
 | .nmap,_,_,hc=>by grind [Con0,Con]
 | .map _,_,h,_=>by simp [okC]at h
 | .nfn,_,_,hc=>by grind [Con0,Con]
 | .fn f cap,v,h,hc=>by simp only [okC]at h;simp only [Con]at hc;simp only [Con0];obtain ⟨vs,h1,h2⟩:=hc;exact ⟨vs,h1,bf_ h h2⟩
 | .nif,_,_,hc=>by grind [Con0,Con]
 | .iface t a,v,h,hc=>by simp only [okC]at h;simp only [Con]at hc;simp only [Con0];obtain ⟨u,h1,h2⟩:=hc;exact ⟨u,h1,iH_ h h2⟩
 | .agg _,_,h,_=>by simp [okC]at h
 | .tup _,_,h,_=>by simp [okC]at h
 | .sym _,_,h,_=>by simp [okC]at h
 | .slx ..,_,h,_=>by simp [okC]at h
 | .ptx ..,_,h,_=>by simp [okC]at h
theorem iH_ {E:Env}:∀{a:AV} {v:Value},okI a=true->Con E a v->Con0 E a v
 | .opq,_,h,_=>by simp [okI]at h
 | .bool _,_,_,hc=>by grind [Con0,Con]
 | .int _ _,_,_,hc=>by grind [Con0,Con]
 | .flt _ _,_,_,hc=>by grind [Con0,Con]
 | .nan _,_,_,hc=>by grind [Con0,Con]
 | .str _,_,_,hc=>by grind [Con0,Con]
 | .nptr,_,_,hc=>by grind [Con0,Con]
 | .ptr _ _,_,h,_=>by simp [okI]at h
 | .vptr cs,v,h,hc=>by simp only [okI]at h;simp only [Con]at hc;simp only [Con0];obtain ⟨b,o,vs,h1,h2,h3⟩:=hc;exact ⟨b,o,vs,h1,bf_ h h2,h3⟩
 | .nsl,_,_,hc=>by grind [Con0,Con]
 | .sl ..,_,h,_=>by simp [okI]at h
 | .vsl _ _ cs,v,h,hc=>by obtain ⟨b,o,vs,c,h1,h2,h3,h4⟩:=hc;exact ⟨b,o,vs,c,h1,h2,bf_ h h3,h4⟩
 | .nmap,_,_,hc=>by grind [Con0,Con]
 | .map _,_,h,_=>by simp [okI]at h
 | .nfn,_,_,hc=>by grind [Con0,Con]
 | .fn f cap,v,h,hc=>by simp only [okI]at h;simp only [Con]at hc;simp only [Con0];obtain ⟨vs,h1,h2⟩:=hc;exact ⟨vs,h1,bf_ h h2⟩
 | .nif,_,_,hc=>by grind [Con0,Con]
 | .iface t a,v,h,hc=>by simp only [okI]at h;simp only [Con]at hc;simp only [Con0];obtain ⟨u,h1,h2⟩:=hc;exact ⟨u,h1,iH_ h h2⟩
 | .agg cs,v,h,hc=>by simp only [okI]at h;simp only [Con]at hc;simp only [Con0];obtain ⟨vs,h1,h2⟩:=hc;exact ⟨vs,h1,bf_ h h2⟩
 | .tup _,_,h,_=>by simp [okI]at h
 | .sym _,_,h,_=>by simp [okI]at h
 | .slx ..,_,h,_=>by simp [okI]at h
 | .ptx ..,_,h,_=>by simp [okI]at h
theorem bf_ {E:Env}:∀{as:List AV} {vs:List Value},okL as=true->ConL E as vs->Con0L E as vs
 |[],_,_,hc=>by grind [Con0L,ConL]
 |a::as,vs,h,hc=>by rw [bC_]at h;obtain ⟨h1,h2⟩:=aa_ h;simp only [ConL]at hc;simp only [Con0L];obtain ⟨v,r,e,c1,c2⟩:=hc;exact ⟨v,r,e,bB_ h1 c1,bf_ h2 c2⟩
end
def Env.with (E:Env) (Y:Sy):Env:={ E with sy:=Y.v,syl:=Y.l }
theorem Con0.with {E:Env} {Y:Sy} {a:AV} {v:Value} (h:Con0 E a v):Con0 (E.with Y) a v:=b5_ (E:=E) (E':=E.with Y) (λ_ _ _ h=>h) h
mutual
theorem Con.with {E:Env} {Y:Sy} (hv:∀i a,E.sy i=some a->Y.v i=some a) (hl:∀i l,E.syl i=some l->Y.l i=some l):∀{a:AV} {v:Value},Con E a v->Con (E.with Y) a v
 | .opq,_,_=>by simp [Con]
 | .bool _,_,hc=>by grind [Con]
 | .int _ _,_,hc=>by grind [Con]
 | .flt _ _,_,hc=>by grind [Con]
 | .nan _,_,hc=>by grind [Con]
 | .str _,_,hc=>by grind [Con]
 | .nptr,_,hc=>by grind [Con]
 | .ptr id off,v,hc=>by simpa [Con,Env.with]using hc
 | .vptr cs,v,hc=>by obtain ⟨b,o,vs,h1,h2,h3⟩:=hc;exact ⟨b,o,vs,h1,ConL.with hv hl h2,h3⟩
 | .nsl,_,hc=>by grind [Con]
 | .sl ..,v,hc=>by simpa [Con,Env.with]using hc
 | .vsl ..,v,hc=>by obtain ⟨b,o,vs,c,h1,h2,h3,h4⟩:=hc;exact ⟨b,o,vs,c,h1,h2,ConL.with hv hl h3,h4⟩
 | .nmap,_,hc=>by grind [Con]
 | .map id,v,hc=>by simpa [Con,Env.with]using hc
 | .nfn,_,hc=>by grind [Con]
 | .fn f cap,v,hc=>by simp only [Con]at hc⊢;obtain ⟨vs,h1,h2⟩:=hc;exact ⟨vs,h1,ConL.with hv hl h2⟩
 | .nif,_,hc=>by grind [Con]
 | .iface t a,v,hc=>by simp only [Con]at hc⊢;obtain ⟨u,h1,h2⟩:=hc;exact ⟨u,h1,Con.with hv hl h2⟩
 | .agg cs,v,hc=>by simp only [Con]at hc⊢;obtain ⟨vs,h1,h2⟩:=hc;exact ⟨vs,h1,ConL.with hv hl h2⟩
 | .tup cs,v,hc=>by simp only [Con]at hc⊢;obtain ⟨vs,h1,h2⟩:=hc;exact ⟨vs,h1,ConL.with hv hl h2⟩
 | .sym i,v,hc=>by obtain ⟨a,h1,h2,h3⟩:=hc;exact ⟨a,hv _ _ h1,h2,h3.with⟩
 | .slx id sz i,v,hc=>by obtain ⟨a,h1,h2⟩:=hc;exact ⟨a,hv _ _ h1,h2⟩
 | .ptx id j sz off,v,hc=>by obtain ⟨k,n,h1,h2⟩:=hc;exact ⟨k,n,hv _ _ h1,h2⟩
theorem ConL.with {E:Env} {Y:Sy} (hv:∀i a,E.sy i=some a->Y.v i=some a) (hl:∀i l,E.syl i=some l->Y.l i=some l):∀{as:List AV} {vs:List Value},ConL E as vs->ConL (E.with Y) as vs
 |[],_,hc=>by grind [ConL]
 |a::as,vs,hc=>by simp only [ConL]at hc⊢;obtain ⟨v,r,h1,h2,h3⟩:=hc;exact ⟨v,r,h1,Con.with hv hl h2,ConL.with hv hl h3⟩
end
theorem ConE.with {E:Env} {Y:Sy} (hv:∀i a,E.sy i=some a->Y.v i=some a) (hl:∀i l,E.syl i=some l->Y.l i=some l):∀{as:List (AV×AV×Nat)} {es:List MapEntry},ConE E as es->ConE (E.with Y) as es
 |[],_,hc=>hc
 |(k,v,n)::as,es,hc=>by simp only [ConE]at hc⊢;obtain ⟨e,r,h1,h2,h3,h4,h5⟩:=hc;exact ⟨e,r,h1,h2.with hv hl,h3.with hv hl,h4,ConE.with hv hl h5⟩
theorem RowAt.withS {E:Env} {w:World} {own:Nat->Option Nat} {id:Nat} {k:ABlk} (h:RowAt E w own id k) {Y:Sy} (hv:∀i a,E.sy i=some a->Y.v i=some a) (hl:∀i l,E.syl i=some l->Y.l i=some l):RowAt (E.with Y) w own id k:=by
 refine h.imp (λ_ h=>h) (λh=>⟨h.1,h.2.sub λi hi=>hv i _ hi⟩) λb o h1 h2 h3=>⟨h2,?_⟩;cases k with
 |cells cs=>obtain ⟨arr,t,e1,e2,e3,e4⟩:=h3;refine ⟨arr,t,e1,e2,e3,λi a ha=>?_⟩;obtain ⟨v,hv',hc⟩:=e4 i a ha;exact ⟨v,hv',hc.with hv hl⟩
 |map es c=>obtain ⟨h0,es',e1,e2⟩:=h3;exact ⟨h0,es',e1,e2.with hv hl⟩
 |syl j=>obtain ⟨len,sz,cs,h0,hlen,arr,t,e1,e2,e3,e4⟩:=h3;refine ⟨len,sz,cs,hv _ _ h0,hlen,arr,t,e1,e2,e3,λi a ha=>?_⟩;obtain ⟨v,hv',ho,hc⟩:=e4 i a ha;exact ⟨v,hv',ho,hc.with⟩
 |fz cs=>obtain ⟨arr,t,fr,e1,e2,e3,e5,e4⟩:=h3;refine ⟨arr,t,fr,e1,e2,e3,e5,λi a ha=>?_⟩;obtain ⟨v,hv',hc⟩:=e4 i a ha;exact ⟨v,hv',hc.with hv hl⟩
 |mpl j=>obtain ⟨h0,n,cs,e1,es',clock,e2,e3,e4⟩:=h3;exact ⟨h0,n,cs,hv _ _ e1,es',clock,e2,e3,e4.imp λ_ _ hc=>hc.with⟩
theorem Rel.with {B:World} {pr:Nat->Prop} {E:Env} {H:AHeap} {w:World} (h:Rel B pr E H w) {Y:Sy} (hv:∀i a,E.sy i=some a->Y.v i=some a) (hl:∀i l,E.syl i=some l->Y.l i=some l):
  Rel B pr (E.with Y) H w:=by
 obtain ⟨own,g1,g2,g3⟩:=h.own;refine { own:=⟨own,λid k hk=>?_,g2,g3⟩,imm:=h.imm,ib:=h.ib,fresh:=h.fresh,resv:=h.resv,vds:=h.vds,szs:=h.szs,prot:=h.prot,size:=h.size,os:=h.os,output:=h.output };exact (g1 id k hk).withS hv hl
theorem Env.with_leF (k:Nat) {E:Env} {Y:Sy} (hv:∀i,i<64->Y.v i=E.sy i):E.leF k (E.with Y):=⟨λ_ _ _ h=>h,λ_ _ h=>h,λ_ _ _ h=>h,rfl,hv⟩
section
variable [Gl]
theorem GlOk.leF {k:Nat} {E E':Env} (h:GlOk E) (hle:E.leF k E'):GlOk E':=
 ⟨λg=>ck_ hle.imm (λi a hi hx=>(hle.sy i hi).trans hx) (Gl.nr g) (h.1 g),Gl.gtm _ _ hle.sy h.2⟩
omit [Gl]in
theorem DRel.with {P:Program} {E:Env} {Y:Sy} (hv:∀i a,E.sy i=some a->Y.v i=some a) (hl:∀i l,E.syl i=some l->Y.l i=some l):∀{D:Dfs} {ds:List Deferred},DRel P E D ds->DRel P (E.with Y) D ds
 |[],ds,hd=>hd
 |(f,args)::D,ds,hd=>by obtain ⟨vs,r,h1,h2,h3,h4⟩:=hd;exact ⟨vs,r,h1,h2.with hv hl,h3,h4.with hv hl⟩
theorem St.with {P:Program} {B:World} {pr:Nat->Prop} {N:Nat} {E:Env} {T:Tm} {H:AHeap} {D:Dfs} {a:Act} {w:World} (st:St P B pr N E T H D a w) {Y:Sy}
  (hv:∀i a,E.sy i=some a->Y.v i=some a) (hl:∀i l,E.syl i=some l->Y.l i=some l) (hlo:∀i,i<64->Y.v i=E.sy i):St P B pr N (E.with Y) T H D a w:=
 ⟨⟨st.t.size,st.t.le,λt ht=>(st.t.con t ht).with hv hl,st.t.gl.leF (Env.with_leF 0 hlo)⟩,st.r.with hv hl,st.d.with hv hl⟩
end
def Sy.put (Y:Sy) (n:Nat) (a:AV):Sy:={ Y with v:=λi=>if i=n then some a else Y.v i }
def Sy.puts (Y:Sy):Nat->List AV->Sy
 |_,[]=>Y
 |n,a::r=>(Y.put n a).puts (n+1) r
theorem Sy.put_same (Y:Sy) (n:Nat) (a:AV):(Y.put n a).v n=some a:=by simp [Sy.put]
theorem Sy.put_ne (Y:Sy) {n i:Nat} (a:AV) (h:i≠n):(Y.put n a).v i=Y.v i:=by simp [Sy.put,h]
def Fresh (Y:Sy) (n:Nat):Prop:=64<=n/\∀i,n<=i->Y.v i=none
theorem Fresh.put {Y:Sy} {n:Nat} (h:Fresh Y n) (a:AV):Fresh (Y.put n a) (n+1):=⟨by have:=h.1;omega,λi hi=>by rw [Sy.put_ne _ _ (by omega)];exact h.2 i (by omega)⟩
theorem Fresh.low {Y:Sy} {n:Nat} (h:Fresh Y n) (a:AV) (i:Nat) (hi:i<64):(Y.put n a).v i=Y.v i:=Sy.put_ne _ _ (by have:=h.1;omega)
theorem Fresh.sub_put {Y:Sy} {n:Nat} (h:Fresh Y n) (a:AV):∀i x,Y.v i=some x->(Y.put n a).v i=some x:=λi x hx=>by
 have:i≠n:=λe=>by rw [e,h.2 n (Nat.le_refl _)]at hx;cases hx
 grind [Sy.put_ne]
theorem Fresh.puts:∀{Y:Sy} {n:Nat} (l:List AV),Fresh Y n->Fresh (Y.puts n l) (n+l.length)/\(∀i x,Y.v i=some x->(Y.puts n l).v i=some x)/\(Y.puts n l).l=Y.l/\∀i,i<64->(Y.puts n l).v i=Y.v i
 |Y,n,[],h=>⟨by simpa [Sy.puts]using h,λ_ _ h=>h,rfl,λ_ _=>rfl⟩
 |Y,n,a::r,h=>by obtain ⟨h1,h2,h3,h4⟩:=Fresh.puts (Y:=Y.put n a) (n:=n+1) r (h.put a);refine ⟨?_,λi x hx=>h2 i x (h.sub_put a i x hx),h3,λi hi=>(h4 i hi).trans (h.low a i hi)⟩;have:n+(a::r).length=n+1+r.length:=(by simp;omega);rw [this];exact h1
def ai_:Nat->Nat->List AV
 |_,0=>[]
 |n,m+1=>.sym n::ai_ (Nat.succ n) m
theorem bI_:∀{Y:Sy} {n:Nat} (l:List AV),Fresh Y n->∀i a,l[i]? =some a->(Y.puts n l).v (n+i)=some a
 |Y,n,[],h,i,a,ha=>by simp at ha
 |Y,n,b::r,h,i,a,ha=>by
  show ((Y.put n b).puts (n+1) r).v (n+i)=some a;cases i with
  |zero=>simp only [List.getElem?_cons_zero]at ha;cases ha;exact (Fresh.puts (Y:=Y.put n b) (n:=n+1) r (h.put b)).2.1 n b (Sy.put_same _ _ _)
  |succ i=>simp only [List.getElem?_cons_succ]at ha;have:=bI_ (Y:=Y.put n b) (n:=n+1) r (h.put b) i a ha;rw [show n+(i+1)=n+1+i by omega];exact this
theorem bs_ {E:Env}:∀(n:Nat) (l:List AV) (vs:List Value),okL l=true->(∀i a,l[i]? =some a->E.sy (n+i)=some a)->Con0L E l vs->ConL E (ai_ n l.length) vs
 |n,[],vs,_,_,hc=>by grind [ai_,ConL,Con0L]
 |n,a::r,vs,hk,hs,hc=>by
  rw [bC_]at hk;obtain ⟨k1,k2⟩:=aa_ hk;obtain ⟨v,q,rfl,h1,h2⟩:=hc;refine ⟨v,q,rfl,?_,bs_ (n+1) r q k2 (λi b hb=>?_) h2⟩;exact ⟨a,by simpa using hs 0 a rfl,be_ k1,h1⟩
  .have:=hs (i+1) b (by grind)
   grind
mutual
theorem hB_ (s:Nat->Option AV):∀{a:AV},okC a=true->den s a=a
 | .bool _,_=>rfl
 | .int _ _,_=>rfl
 | .flt _ _,_=>rfl
 | .nan _,_=>rfl
 | .str _,_=>rfl
 | .nptr,_=>rfl
 | .nsl,_=>rfl
 | .nmap,_=>rfl
 | .nfn,_=>rfl
 | .nif,_=>rfl
 | .vptr cs,h=>by simp only [okC]at h;simp only [den];rw [aW_ s h]
 | .vsl _ _ cs,h=>by simp only [okC]at h;simp only [den];rw [aW_ s h]
 | .fn _ cs,h=>by simp only [okC]at h;simp only [den];rw [aW_ s h]
 | .iface _ a,h=>by simp only [okC]at h;simp only [den];rw [hC_ s h]
 | .opq,h=>by simp [okC]at h
 | .ptr ..,h=>by simp [okC]at h
 | .sl ..,h=>by simp [okC]at h
 | .map ..,h=>by simp [okC]at h
 | .agg ..,h=>by simp [okC]at h
 | .tup ..,h=>by simp [okC]at h
 | .sym ..,h=>by simp [okC]at h
 | .slx ..,h=>by simp [okC]at h
 | .ptx ..,h=>by simp [okC]at h
theorem hC_ (s:Nat->Option AV):∀{a:AV},okI a=true->den s a=a
 | .bool _,_=>rfl
 | .int _ _,_=>rfl
 | .flt _ _,_=>rfl
 | .nan _,_=>rfl
 | .str _,_=>rfl
 | .nptr,_=>rfl
 | .nsl,_=>rfl
 | .nmap,_=>rfl
 | .nfn,_=>rfl
 | .nif,_=>rfl
 | .vptr cs,h=>by simp only [okI]at h;simp only [den];rw [aW_ s h]
 | .vsl _ _ cs,h=>by simp only [okI]at h;simp only [den];rw [aW_ s h]
 | .fn _ cs,h=>by simp only [okI]at h;simp only [den];rw [aW_ s h]
 | .iface _ a,h=>by simp only [okI]at h;simp only [den];rw [hC_ s h]
 | .agg cs,h=>by simp only [okI]at h;simp only [den];rw [aW_ s h]
 | .opq,h=>by simp [okI]at h
 | .ptr ..,h=>by simp [okI]at h
 | .sl ..,h=>by simp [okI]at h
 | .map ..,h=>by simp [okI]at h
 | .tup ..,h=>by simp [okI]at h
 | .sym ..,h=>by simp [okI]at h
 | .slx ..,h=>by simp [okI]at h
 | .ptx ..,h=>by simp [okI]at h
theorem aW_ (s:Nat->Option AV):∀{l:List AV},okL l=true->ab_ s l=l
 |[],_=>rfl
 |a::r,h=>by rw [bC_]at h;obtain ⟨h1,h2⟩:=aa_ h;simp only [ab_];rw [hB_ s h1,aW_ s h2]
end
def b4_ (sz:Nat) (b:AV):Option (Nat×List AV):=match b with
 | .agg l=>some (Nat.div (aP_ l) sz,l)
 |b=>match aQ_ b with
  |some n=>match am_ ⟨hnil,0,0⟩ b n sz with
   |some l=>some (n,l)
   |none=>none
  |none=>none
def m4_ (sz bytes:Nat) (a:AV) (n:Nat) (l:List AV):Option AV:=match decide (l.length=n*sz)with
 |false=>none
 |true=>match a with
  | .nsl=>match n with
    |0=>some .nsl
    |_=>match Nat.ble (Nat.mul n bytes) 1073741824&&Nat.ble n 1073741824&&Nat.blt 0 bytes with
     |true=>some (.vsl n sz l)
     |false=>none
  | .vsl len sz' cs=>match decide (sz'=sz/\cs.length=len*sz)with
    |false=>none
    |true=>match n with
     |0=>some (.vsl len sz' cs)
     |_=>match Nat.ble (Nat.mul (Nat.add len n) bytes) 1073741824&&Nat.ble (Nat.add len n) 1073741824&&Nat.blt 0 bytes with
      |true=>some (.vsl (Nat.add len n) sz (cs++l))
      |false=>none
  |_=>none
def mh_ (d:TypeDesc) (k v:AV):List AV->Option (List AV)
 |[]=>some [k,v]
 |[_]=>none
 |q::x::r=>match hh_ d k q with
  |some true=>some (q::v::r)
  |some false=>match mh_ d k v r with
   |some l=>some (q::x::l)
   |none=>none
  |none=>none
def tc_ (d:TypeDesc) (m k v:AV):Option AV:=match f5_ d k with
 |true=>match m with
  | .vsl n z cs=>match Nat.beq z 2&&Nat.beq (Nat.mul n 2) (aP_ cs)with
    |true=>match mh_ d k v cs with
     |some l=>some (.vsl (Nat.div (aP_ l) 2) 2 l)
     |none=>none
    |false=>none
  |_=>none
 |false=>none
def nc_:List AV->List (AV×AV×Nat)
 |[]=>[]
 |[_]=>[]
 |k::v::r=>(unK k,v,0)::nc_ r
def qZ_ (P:Program) (kt:TypeId) (k v:AV):List AV->Option (List AV)
 |[]=>some [enK k,v]
 |[_]=>none
 |q::x::r=>match hD_ P kt k (unK q)with
  |some true=>match ds_ k (unK q)with
   |true=>some (enK k::v::r)
   |false=>none
  |some false=>match qZ_ P kt k v r with
   |some l=>some (q::x::l)
   |none=>none
  |none=>none
inductive XOp where
 |bin (op:BinOp) (t:TypeId) (cx cy:Bool)
 |un (op:UnOp)
 |conv (s d:TypeId)
 |idx (t:TypeId)
 |iaddr (t:TypeId)
 |faddr (s:TypeId) (f:Nat)
 |load (t:TypeId)
 |fld (s:TypeId) (f:Nat)
 |slc (t:TypeId) (lo hi:Bool)
 |len (t:TypeId)
 |nilc
 |app (sz bytes:Nat)
 |mm (mx:Bool)
 |mput (t:TypeId)
 |mlen
 |ext (f:FuncId)
 |inb
 |ldx (t:TypeId) (sz off:Nat)
 |stx (t:TypeId) (sz off:Nat)
 |tkx
 |mget (t:TypeId) (es:List (AV×AV×Nat))
 |mlk (t:TypeId)
 |mpu (t:TypeId)
 |emp
 |mkx (sz bytes:Nat) (zs:List AV)
 |mkz (sz bytes:Nat) (zs:List AV)
 |skx
 |flat (sz off es len:Nat)
 |opn (len sz:Nat)
def h0:AHeap:=⟨hnil,0,0⟩
def bG_:AV->Bool
 | .ptr _ _| .sl _ _ _ _ _| .map _| .slx _ _ _| .ptx _ _ _ _=>false
 |_=>true
def dV_ (x:AV) (r:Option AV):Option AV:=match bG_ x with
 |true=>r
 |false=>none
def rm_ (cs:List AV):AHeap:=(⟨hnil,0,0⟩:AHeap).set 0 (.cells cs)
def XOp.run (P:Program):XOp->List AV->Option AV
 | .bin op t cx cy,[x,y]=>bR_ P op t cx cy x y
 | .un op,[x]=>on_ op x
 | .conv s d,[x]=>dV_ x (dS_ P h0 s d x)
 | .idx t,[x,i]=>ep_ P t x i
 | .iaddr t,[x,i]=>aZ_ P t x i
 | .faddr s f,[x]=>bU_ P s x f
 | .load t,[x]=>dV_ x (bx_ P h0 t x)
 | .fld s f,[x]=>eo_ P s x f
 | .slc t false false,[x]=>dV_ x (a5_ P h0 t x none none)
 | .slc t true false,[x,a]=>dV_ x (a5_ P h0 t x (some a) none)
 | .slc t false true,[x,b]=>dV_ x (a5_ P h0 t x none (some b))
 | .slc t true true,[x,a,b]=>dV_ x (a5_ P h0 t x (some a) (some b))
 | .len t,[x]=>dV_ x (eq_ P h0 t x)
 | .nilc,[x]=>match x with
   | .vptr cs=>some (.vptr cs)
   |_=>none
 | .mm mx,[x,y]=>match x with
   | .int k a=>match y with
     | .int k' b=>match Nat.beq (kix k) (kix k')with
       |true=>some (.int k (match mx with|true=>max a b|false=>min a b))
       |false=>none
     |_=>none
   |_=>none
 | .mput t,[m,k,v]=>match P.underlying t with
   |some (.map kt _)=>match P.underlying kt with
    |some d=>tc_ d m k v
    |none=>none
   |_=>none
 | .mlen,[m]=>match m with
   | .vsl n z cs=>match Nat.beq z 2 with
     |true=>some (.int .i64 (.ofNat n))
     |false=>none
   |_=>none
 | .ext f,[x]=>match plain x with
   |some u=>match aI_ P (callFunc f #[u])with
    |some (.value v)=>some (ofV v)
    |_=>none
   |none=>none
 | .mget t es,[k]=>bm_ P ((⟨hnil,0,0⟩:AHeap).set 0 (.map es 0)) t (.map 0) k false
 | .mlk t,[m,k]=>match m with
   | .vsl n z cs=>match Nat.beq z 2 with
     |true=>bm_ P ((⟨hnil,0,0⟩:AHeap).set 0 (.map (nc_ cs) 0)) t (.map 0) k false
     |false=>none
   |_=>none
 | .mpu t,[m,k,v]=>match P.underlying t with
   |some (.map kt _)=>match P.underlying kt with
    |some d=>match dZ_ d&&dO_ P kt k with
     |true=>match m with
      | .vsl n z cs=>match Nat.beq z 2&&Nat.beq (Nat.mul n 2) (aP_ cs)with
        |true=>match qZ_ P kt k v cs with
         |some l=>some (.vsl (Nat.div (aP_ l) 2) 2 l)
         |none=>none
        |false=>none
      |_=>none
     |false=>none
    |none=>none
   |_=>none
 | .inb,[x,i]=>match x with
   | .vsl ln _ _=>match i with
     | .int _ m=>match Sx.idx m ln with
       |some n=>some (.int .i64 (.ofNat n))
       |none=>none
     |_=>none
   |_=>none
 | .ldx t sz off,[x,j]=>match x with
   | .vsl _ _ cs=>match j with
     | .int _ (.ofNat n)=>bx_ P (rm_ cs) t (.ptr 0 (Nat.add (Nat.mul n sz) off))
     |_=>none
   |_=>none
 | .stx t sz off,[x,j,v]=>match x with
   | .vsl ln z cs=>match j with
     | .int _ (.ofNat n)=>match b8_ P (rm_ cs) t (.ptr 0 (Nat.add (Nat.mul n sz) off)) v with
       |some r=>match r.2.get 0 with
        |some (.cells cs')=>some (.vsl ln z cs')
        |_=>none
       |none=>none
     |_=>none
   |_=>none
 | .tkx,[x,r,i]=>match i with
   | .int _ (.ofNat m)=>match x with
     | .vsl ln z0 _=>match r with
       | .vsl n z cs=>match Nat.beq z z0&&(Nat.ble m ln&&Nat.ble m n)with
         |true=>match bi_ (Nat.mul m z) cs with
          |some cs'=>some (.vsl m z cs')
          |none=>none
         |false=>none
       |_=>none
     | .nsl=>match r with
       | .nsl=>match m with
         |0=>some .nsl
         |_=>none
       |_=>none
     |_=>none
   |_=>none
 | .flat sz off es ln,[j,h]=>match j with
   | .int _ (.ofNat n)=>match h with
     | .int _ i=>match Sx.idx i ln with
       |some m=>some (.int .i64 (.ofNat (Nat.add (Nat.add (Nat.mul n sz) off) (Nat.mul m es))))
       |none=>none
     |_=>none
   |_=>none
 | .opn ln sz,[x]=>match x with
   | .vsl n z cs=>match Nat.beq n ln&&(Nat.beq z sz&&Nat.beq (aP_ cs) (Nat.mul ln sz))with
     |true=>some (.agg cs)
     |false=>none
   |_=>none
 | .mkx sz bytes zs,[a]=>match a with
   | .int _ (.ofNat n)=>match Nat.ble (Nat.mul bytes n) 16777216&&Nat.ble n 16777216 with
     |true=>some (.vsl n sz (ax_ zs n))
     |false=>none
   |_=>none
 | .mkz sz bytes zs,[a]=>match a with
   | .int _ (.ofNat n)=>match Nat.blt 0 sz&&(Nat.blt 0 bytes&&(Nat.blt 0 n&&(Nat.ble (Nat.mul n bytes) 1073741824&&Nat.ble n 1073741824)))with
     |true=>some (.vsl n sz (ax_ zs n))
     |false=>none
   |_=>none
 | .skx,[x,a]=>match x with
   | .vsl n z cs=>match a with
     | .int _ (.ofNat m)=>match Nat.ble m n with
       |true=>some (.vsl (Nat.sub n m) z (ah_ (Nat.mul m z) cs))
       |false=>none
     |_=>none
   |_=>none
 | .emp,[a]=>match a with
   | .nsl=>some (.bool true)
   | .vsl n _ _=>some (.bool (Nat.beq n 0))
   |_=>none
 | .app sz bytes,[a,b]=>match b4_ sz b with
   |some (n,l)=>m4_ sz bytes a n l
   |none=>none
 |_,_=>none
theorem ng_ {P:Program} {H:AHeap} {t:TypeId} {x:AV} (h:bG_ x=true):bx_ P H t x=bx_ P h0 t x:=by
 have hc:∀n,aU_ H x n=aU_ h0 x n:=λn=>by cases x<;>first|rfl|(simp [bG_]at h)
 grind [bx_]
theorem pp_ {P:Program} {H:AHeap} {t:TypeId} {x:AV} (h:bG_ x=true):eq_ P H t x=eq_ P h0 t x:=by
 unfold eq_
 grind [bG_]
theorem gg_ {H:AHeap} {x:AV} (h:bG_ x=true) (n sz:Nat):am_ H x n sz=am_ h0 x n sz:=by cases x<;>first|rfl|(simp [bG_]at h)
theorem nd_ {P:Program} {H:AHeap} {s d:TypeId} {x:AV} (h:bG_ x=true):dS_ P H s d x=dS_ P h0 s d x:=by cases x<;>first|rfl|(simp [bG_]at h)
theorem dg_ {P:Program} {H:AHeap} {t:TypeId} {x:AV} (h:bG_ x=true) (lo hi:Option AV):a5_ P H t x lo hi=a5_ P h0 t x lo hi:=by cases x<;>first|rfl|(simp [bG_]at h)
theorem by_ {x:AV} {r:Option AV} {a:AV} (h:dV_ x r=some a):bG_ x=true/\r=some a:=by
 grind [dV_]
inductive Tree where
 |bad
 |done (v:AV)
 |ite (i:Nat) (a b:Tree)
 |lt (op:XOp) (args:List AV) (n:Nat) (m:Option Nat) (t:Tree)
def a3_ (P:Program) (Q:AV->Prop):Sy->Tree->Prop
 |_,.bad=>False
 |Y,.done v=>Q (den Y.v v)
 |Y,.ite i a b=>∃t,Y.v i=some (.bool t)/\(t=true->a3_ P Q Y a)/\(t=false->a3_ P Q Y b)
 |Y,.lt op args n m t=>match m with
  |none=>∃r,op.run P (ab_ Y.v args)=some r/\okC r=true/\a3_ P Q (Y.put n r) t
  |some k=>∃cs,op.run P (ab_ Y.v args)=some (.agg cs)/\cs.length=k/\okL cs=true/\a3_ P Q (Y.puts n cs) t
structure XS where
 T:Tm
 H:AHeap
 n:Nat
inductive XX where
 |exit (id:Nat) (S:XS)
 |ret (S:XS)
def sj_ {α β:Type} (f:α->β) (q:Q8 α):Q8 β:=Q8.casesOn q λa b c d e g h i=>⟨f a,f b,f c,f d,f e,f g,f h,f i⟩
def bd_ (f:AV->AV) (T:Tm):Tm:=sj_ (sj_ (sj_ f)) T
theorem qh_ {α β:Type} (f:α->β) (q:Q8 α):∀i:Nat,Q8.at8 i (sj_ f q)=f (Q8.at8 i q)
 |0=>by rfl
 |1=>by rfl
 |2=>by rfl
 |3=>by rfl
 |4=>by rfl
 |5=>by rfl
 |6=>by rfl
 |n+7=>by rfl
theorem aH_ (f:AV->AV) (T:Tm) (t:Nat):tget (bd_ f T) t=f (tget T t):=by
 grind [fd_,bd_,qh_]
def gX_ (i:Nat) (b:Bool) (a:AV):AV:=match a with
 | .sym j=>match Nat.beq j i with
   |true=>.bool b
   |false=>.sym j
 |a=>a
def XS.know (S:XS) (i:Nat) (b:Bool):XS:=⟨bd_ (gX_ i b) S.T,S.H,S.n⟩
variable [Gl]
def cw_ (T:Tm) (o:Oper):Option (XOp×List AV):=match o.op with
 | .binOp op t x y _=>some (.bin op t (br_ x) (br_ y),[look T x,look T y])
 | .unOp op _ x=>some (.un op,[look T x])
 | .convert s d x=>some (.conv s d,[look T x])
 | .index t x i=>some (.idx t,[look T x,look T i])
 | .indexAddr t x i=>some (.iaddr t,[look T x,look T i])
 | .fieldAddr s x f=>some (.faddr s f,[look T x])
 | .load t a=>some (.load t,[look T a])
 | .field s x f=>some (.fld s f,[look T x])
 | .slice t x lo hi mx=>match mx with
   |none=>match lo with
    |none=>match hi with
     |none=>some (.slc t false false,[look T x])
     |some b=>some (.slc t false true,[look T x,look T b])
    |some a=>match hi with
     |none=>some (.slc t true false,[look T x,look T a])
     |some b=>some (.slc t true true,[look T x,look T a,look T b])
   |some _=>none
 | .nilCheck x=>some (.nilc,[look T x])
 | .call c=>match c.callee with
   | .builtin b=>match b with
     | .len=>match c.args.toList,c.argTypes.toList with
       |[x],[t]=>some (.len t,[look T x])
       |_,_=>none
     | .max=>match c.args.toList with
       |[x,y]=>some (.mm true,[look T x,look T y])
       |_=>none
     | .min=>match c.args.toList with
       |[x,y]=>some (.mm false,[look T x,look T y])
       |_=>none
     |_=>none
   |_=>none
 |_=>none
omit [Gl]in
def tl_ (P:Program) (t:TypeId):Option Nat:=match P.underlying t with
 |some d=>match pd_ d with
  |true=>match P.info? t with
   |some i=>some i.size
   |none=>none
  |false=>none
 |none=>none
omit [Gl]in
def j3_ (P:Program) (op:XOp):Option Nat:=match op with
 | .load t=>tl_ P t
 | .ldx t _ _=>tl_ P t
 | .fld s f=>match P.underlying s with
   |some (.struct fields)=>match fields[f]? with
    |some fl=>tl_ P fl.type
    |none=>none
   |_=>none
 |_=>none
def ry_ (a:AV):Option Nat:=match a with
 | .sym i=>some i
 |_=>none
def in_ (all:List Oper) (o:Oper) (T:Tm):Option Nat:=match o.guard with
 |none=>none
 |some (j,_)=>match iD_ all j with
  |some oj=>match oj.dst with
   |some d=>ry_ (tget T d)
   |none=>none
  |none=>none
def gY_ (T:Tm) (x:Operand):Option Nat:=match x with
 | .tmp t=>match Nat.blt t 512 with
   |true=>ry_ (tget T t)
   |false=>none
 |_=>none
def gb_ (o:Oper) (T:Tm):Option (Nat×Operand×Operand):=match o.op with
 | .pick c a b=>match gY_ T c with
   |some i=>some (i,a,b)
   |none=>none
 |_=>none
structure Fact where
 o:BinOp
 l:Bool
 i:Nat
 c:AV
 v:AV
def Fact.has (f:Fact) (o:BinOp) (x y:AV):Bool:=decide (o=f.o)&&(match f.l with
 |true=>bM_ x (.sym f.i)&&bM_ y f.c
 |false=>bM_ y (.sym f.i)&&bM_ x f.c)
def jR_:List Fact->XOp->List AV->Option AV
 |[],_,_=>none
 |f::r,op,args=>match op,args with
  | .bin o _ _ _,[x,y]=>match f.has o x y with
    |true=>some f.v
    |false=>jR_ r op args
  |_,_=>none
def Fact.ok (P:Program) (f:Fact) (a:AV):Prop:=∀t cx cy,(match f.l with
 |true=>bR_ P f.o t cx cy a f.c
 |false=>bR_ P f.o t cx cy f.c a)=some f.v
structure XF where
 f:FuncId
 args:List AV
 v:AV
structure FcT where
 b:List Fact
 x:List XF
def oq_:List XF->FuncId->List AV->Option AV
 |[],_,_=>none
 |q::r,f,args=>match Nat.beq f q.f&&dl_ args q.args with
  |true=>some q.v
  |false=>oq_ r f args
def n5_ (x:List XF) (T:Tm) (o:Oper):Option AV:=match o.op with
 | .call c=>match c.callee with
   | .value f=>match f with
     | .func id=>oq_ x id (js_ (look T) c.args.toList)
     |_=>none
   |_=>none
 |_=>none
def XOk (P:Program) (Y:Sy) (q:XF):Prop:=∀(B:World) (pr:Nat->Prop) (E:Env) (H:AHeap) (w:World) (vs:List Value),(∀i,i<64->E.sy i=Y.v i)->GlOk E->Rel B pr E H w->ConL E q.args vs->
 ∃u,(callFunc q.f ⟨vs⟩).run P w=.ok (.value u) w/\Con E q.v u
def KnownF (P:Program) (fc:FcT) (Y:Sy):Prop:=(∀f∈fc.b,okC f.v=true/\okC f.c=true/\∃a,Y.v f.i=some a/\f.ok P a)/\∀q∈fc.x,XOk P Y q
def rV_ (P:Program) (fuel:Nat) (fc:FcT) (o:Oper) (u:Tm->AV->Tm) (S:XS) (k:XS->Tree):Tree:=match (ac_ P o).run S.T S.H with
 |some r=>match r with
  | .val a H'=>k ⟨u S.T a,H',S.n⟩
  | .call g args=>match aM_ P fuel g args S.H with
    |some r=>match r with
     | .ret a H'=>k ⟨u S.T a,H',S.n⟩
     | .pan _ _=>.bad
    |none=>.bad
  |_=>.bad
 |none=>match gb_ o S.T with
  |some (i,a,b)=>.ite i (k ⟨u (S.know i true).T (look (S.know i true).T a),S.H,S.n⟩) (k ⟨u (S.know i false).T (look (S.know i false).T b),S.H,S.n⟩)
  |none=>match n5_ fc.x S.T o with
   |some v=>k ⟨u S.T v,S.H,S.n⟩
   |none=>match cw_ S.T o with
    |some (op,args)=>match ad_ args with
     |true=>match j3_ P op with
      |none=>match jR_ fc.b op args with
        |some v=>k ⟨u S.T v,S.H,S.n⟩
        |none=>.lt op args S.n none (k ⟨u S.T (.sym S.n),S.H,Nat.succ S.n⟩)
      |some m=>.lt op args S.n (some m) (k ⟨u S.T (.agg (ai_ S.n m)),S.H,Nat.add S.n m⟩)
     |false=>.bad
    |none=>.bad
def xOp (P:Program) (fuel:Nat) (fc:FcT) (all:List Oper) (o:Oper) (u:Tm->AV->Tm) (next:XS->Tree) (S:XS):Tree:=match guardE' all o S.T with
 |some t=>match t with
  |false=>next ⟨u S.T (.tup []),S.H,S.n⟩
  |true=>rV_ P fuel fc o u S next
 |none=>.bad
where guardE' (all:List Oper) (o:Oper) (T:Tm):Option Bool:=match aT_ all o with
 | .always=>some true
 | .mk g=>g T
def nY_ (P:Program) (N fuel:Nat) (fc:FcT) (all:List Oper):List Oper->XS->(XS->Tree)->Tree
 |[],S,K=>K S
 |o::r,S,K=>match bN_ N o.dst with
  | .bad=>.bad
  | .mk u=>match in_ all o S.T with
    |some i=>.ite i (xOp P fuel fc all o u (λS=>nY_ P N fuel fc all r S K) (S.know i true)) (xOp P fuel fc all o u (λS=>nY_ P N fuel fc all r S K) (S.know i false))
    |none=>xOp P fuel fc all o u (λS=>nY_ P N fuel fc all r S K) S
def o9_ (b:XS->(XS->Tree)->Tree):Nat->XS->Tree
 |0,_=>.bad
 |n+1,S=>b S λS'=>o9_ b n S'
def tX_ (id:Nat) (K:XS->Tree) (X:XX->Tree) (r:XX):Tree:=match r with
 | .exit id' S=>match Nat.beq id' id with
   |true=>K S
   |false=>X r
 | .ret _=>X r
def dj_ (P:Program) (N fuel:Nat) (fc:FcT):Code->XS->(XS->Tree)->(XX->Tree)->Tree
 | .skip,S,K,X=>K S
 | .label _,S,K,X=>K S
 | .region _ ops draw,S,K,X=>match draw with
   |false=>nY_ P N fuel fc ops.toList ops.toList S K
   |true=>match h8_ P (aM_ P fuel) N ops.toList S.T S.H []with
    |some r=>match r with
     | .norm T H D=>match D with
       |[]=>K ⟨T,H,S.n⟩
       |_=>.bad
     |_=>.bad
    |none=>.bad
 | .seq a b,S,K,X=>dj_ P N fuel fc a S (λS=>dj_ P N fuel fc b S K X) X
 | .cond c a b,S,K,X=>match look S.T c with
   | .bool t=>match t with
     |true=>dj_ P N fuel fc a S K X
     |false=>dj_ P N fuel fc b S K X
   |_=>match gY_ S.T c with
    |some i=>.ite i (dj_ P N fuel fc a (S.know i true) K X) (dj_ P N fuel fc b (S.know i false) K X)
    |none=>.bad
 | .block id b,S,K,X=>dj_ P N fuel fc b S K (tX_ id K X)
 | .loop b,S,K,X=>o9_ (λS K=>dj_ P N fuel fc b S K X) fuel S
 | .exit id,S,K,X=>X (.exit id S)
 | .ret,S,K,X=>X (.ret S)
 |_,_,_,_=>.bad
def o8_ (P:Program) (rs:List ResultVar) (S:XS):Tree:=match dK_ P S.T S.H rs with
 |some l=>match ef_ 100 S.H (rj_ l)with
  |some v=>match ae_ v with
   |true=>.done v
   |false=>.bad
  |none=>.bad
 |none=>.bad
def u8_ (P:Program) (rs:List ResultVar) (r:XX):Tree:=match r with
 | .ret S=>o8_ P rs S
 | .exit _ _=>.bad
def xFn (P:Program) (fuel:Nat) (fc:FcT) (f:FuncId) (args:List AV) (n:Nat):Tree:=match P.funcs[f]? with
 |some fn=>match fn.body with
  |some c=>match Nat.ble (aP_ args) fn.ntmps&&Nat.ble fn.ntmps 512 with
   |true=>dj_ P fn.ntmps fuel fc c ⟨aX_ args 0 tnil,H0,n⟩ (o8_ P fn.results.toList) (u8_ P fn.results.toList)
   |false=>.bad
  |none=>.bad
 |none=>.bad
end Go.Sx
namespace Go.Sx
variable [Gl]
section
variable {P:Program} {N k:Nat}
theorem g0_ {all:List Oper} {K K':KP} {X X':XP} (hk:∀Y T H D,K Y T H D->K' Y T H D) (hx:∀Y r,X Y r->X' Y r):∀(l:List Oper) (Y:Sy) (T:Tm) (H:AHeap) (D:Dfs),
  fH_ P N k all l Y T H D K X->fH_ P N k all l Y T H D K' X'
 |[],Y,T,H,D,h=>hk _ _ _ _ h
 |o::r,Y0,T0,H0,D0,h=>by
  obtain ⟨Y,T,H,D,hw,h⟩:=h;refine ⟨Y,T,H,D,hw,?_⟩;split at h;exact h.elim
  .obtain ⟨t,ht,h1,h2⟩:=h;have ih:=g0_ (all:=all) hk hx r;refine ⟨t,ht,λe=>?_,λe=>ih _ _ _ _ (h2 e)⟩;rcases h1 e with h1|h1|h1|h1
   .unfold cF_ at h1⊢;split at h1<;>grind [SemCall.mono]
   refine .inr (.inl ?_);obtain ⟨Y',r,H',h3,h4⟩:=h1;exact ⟨Y',r,H',ih _ _ _ _ h3,h4⟩;refine .inr (.inr (.inl ?_));obtain ⟨g,args,Y',r,h2,h3,h4⟩:=h1;exact ⟨g,args,Y',r,h2,ih _ _ _ _ h3,h4⟩;refine .inr (.inr (.inr ?_));obtain ⟨g,args,R,h2,h3,h4,h5⟩:=h1;exact ⟨g,args,R,h2,λY' r H' h=>ih _ _ _ _ (h3 Y' r H' h),λY' v H' h=>hx _ _ (h4 Y' v H' h),h5⟩
omit [Gl]in
theorem dm_ {K K':KP} {X X':XP} (hk:∀Y T H D,K Y T H D->K' Y T H D) (hx:∀Y r,X Y r->X' Y r) {Y:Sy} {r:CRes} (h:ay_ K X Y r):ay_ K' X' Y r:=by
 cases r with
 |norm T H D=>exact hk _ _ _ _ h
 |exit id T H D=>exact hx _ _ h
 |ret T H D=>exact hx _ _ h
 |pan v T H D=>exact hx _ _ h
omit [Gl]in
theorem ls_ {id:Nat} {K K':KP} {X X':XP} (hk:∀Y T H D,K Y T H D->K' Y T H D) (hx:∀Y r,X Y r->X' Y r) {Y:Sy} {r:CRes} (h:m5_ id K X Y r):m5_ id K' X' Y r:=by
 cases r with
 |norm T H D=>exact hx _ _ h
 |exit id' T H D=>exact ⟨λe=>hk _ _ _ _ (h.1 e),λe=>hx _ _ (h.2 e)⟩
 |ret T H D=>exact hx _ _ h
 |pan v T H D=>exact hx _ _ h
theorem au_:∀(c:Code) {K K':KP} {X X':XP} (hk:∀Y T H D,K Y T H D->K' Y T H D) (hx:∀Y r,X Y r->X' Y r) (Y:Sy) (T:Tm) (H:AHeap) (D:Dfs),
  aC_ P N k c Y T H D K X->aC_ P N k c Y T H D K' X'
 | .skip,_,_,_,_,hk,hx,Y,T,H,D,h=>by grind [aC_]
 | .label _,_,_,_,_,hk,hx,Y,T,H,D,h=>by grind [aC_]
 | .exit id,_,_,_,_,hk,hx,Y,T,H,D,h=>by grind [aC_]
 | .ret,_,_,_,_,hk,hx,Y,T,H,D,h=>by grind [aC_]
 | .region id ops false,_,_,_,_,hk,hx,Y,T,H,D,h=>by grind [aC_,g0_]
 | .region id ops true,_,_,_,_,hk,hx,Y,T,H,D,h=>by rcases h with h|h;obtain ⟨Y1,T1,H1,D1,hw,call,r,hc,hd,hr⟩:=h;exact .inl ⟨Y1,T1,H1,D1,hw,call,r,hc,hd,dm_ hk hx hr⟩;refine .inr λB pr E a w hy st=>Code.wp_mono (λe a w hq=>?_) (h B pr E a w hy st);obtain ⟨Y',r,hr,hq⟩:=hq;exact ⟨Y',r,dm_ hk hx hr,hq⟩
 | .seq a b,_,_,_,_,hk,hx,Y,T,H,D,h=>by unfold aC_ at h⊢;exact au_ a (λY T H D h=>au_ b hk hx Y T H D h) hx Y T H D h
 | .cond c a b,_,_,_,_,hk,hx,Y,T,H,D,h=>by unfold aC_ at h⊢;obtain ⟨Y1,T1,H1,D1,hw,t,ht,h1,h2⟩:=h;exact ⟨Y1,T1,H1,D1,hw,t,ht,λe=>au_ a hk hx _ _ _ _ (h1 e),λe=>au_ b hk hx _ _ _ _ (h2 e)⟩
 | .block id b,_,_,_,_,hk,hx,Y,T,H,D,h=>by unfold aC_ at h⊢;exact au_ b hk (λY r h=>ls_ hk hx h) _ _ _ _ h
 | .loop b,_,_,_,_,hk,hx,Y,T,H,D,h=>by unfold aC_ at h⊢;obtain ⟨ι,S,μ,i0,hw,hb⟩:=h;exact ⟨ι,S,μ,i0,hw,λi=>au_ b (λ_ _ _ _ h=>h) hx _ _ _ _ (hb i)⟩
 | .scope _,_,_,_,_,hk,hx,Y,T,H,D,h=>by grind [aC_]
 | .goto _,_,_,_,_,hk,hx,Y,T,H,D,h=>by grind [aC_]
 | .refuse _,_,_,_,_,hk,hx,Y,T,H,D,h=>by grind [aC_]
 | .rangeFunc _ _ _ _,_,_,_,_,hk,hx,Y,T,H,D,h=>by grind [aC_]
end
section
variable {P:Program} {N k:Nat} {Q:AV->Prop} {fuel:Nat} {fc:FcT}
omit [Gl]in
theorem h7_ {E:Env} {i:Nat} {b:Bool} (hi:E.sy i=some (.bool b)) {a:AV} {v:Value} (h:Con E a v):Con E (gX_ i b a) v:=by
 unfold gX_
 grind [Nat.eq_of_beq_eq_true,Con,Con0]
theorem b0_ {Y:Sy} {i:Nat} {b:Bool} (hi:Y.v i=some (.bool b)) (S:XS) (D:Dfs):Weak P N k Y S.T S.H D Y (S.know i b).T S.H D:=λB pr E a w hy st=>
 ⟨E,Env.leF_refl k E,hy,⟨st.t.size,st.t.le,λt ht=>by show Con E (tget (bd_ (gX_ i b) S.T) t) _;rw [aH_];exact h7_ (by rw [hy.v];exact hi) (st.t.con t ht),st.t.gl⟩,st.r,st.d⟩
def kOf (P:Program) (Q:AV->Prop) (fc:FcT) (K:XS->Tree):KP:=λY T H D=>D=[]/\∃n,(Fresh Y n/\KnownF P fc Y)/\a3_ P Q Y (K ⟨T,H,n⟩)
def xOf (P:Program) (Q:AV->Prop) (fc:FcT) (X:XX->Tree):XP:=λY r=>match r with
 | .exit id T H D=>D=[]/\∃n,(Fresh Y n/\KnownF P fc Y)/\a3_ P Q Y (X (.exit id ⟨T,H,n⟩))
 | .ret T H D=>D=[]/\∃n,(Fresh Y n/\KnownF P fc Y)/\a3_ P Q Y (X (.ret ⟨T,H,n⟩))
 |_=>False
def rdS (s:Nat->Option AV) (T:Tm) (x:Operand):AV:=match ae_ (look T x)with
 |true=>den s (look T x)
 |false=>look T x
theorem sy_ {E:Env} {N:Nat} {T:Tm} {a:Act} (h:TRel E N T a.tmps) (x:Operand):Con E (rdS E.sy T x) (a.eval x):=by have hl:=h.look x;unfold rdS;split;rename_i hs;exact (ao_ hs hl).con;exact hl
theorem cb_ {s:Nat->Option AV} {T:Tm} {x:Operand} (h:ae_ (look T x)=true):rdS s T x=den s (look T x):=by unfold rdS;rw [h]
omit [Gl]in
theorem ag_ {a:AV} {r:List AV} (h:ad_ (a::r)=true):ae_ a=true/\ad_ r=true:=by
 simp only [ad_]at h
 grind
theorem tw_ {o:Oper} {op:XOp} {args:List AV} {T:Tm} (hl:cw_ T o=some (op,args)) (hmm:∀mx,op≠ .mm mx) (hs:ad_ args=true) {s:Nat->Option AV} {r:AV} (hr:op.run P (ab_ s args)=some r) (H:AHeap):
  aA_ P (rdS s T) H o=some (.val r H):=by
 unfold cw_ at hl;unfold aA_;split at hl
 .cases hl;obtain ⟨s1,s2⟩:=ag_ hs;obtain ⟨s2,_⟩:=ag_ s2
  grind [ab_,XOp.run,cb_,oV]
 .cases hl;obtain ⟨s1,_⟩:=ag_ hs
  grind [ab_,XOp.run,cb_,oV]
 .cases hl;obtain ⟨s1,_⟩:=ag_ hs
  grind [ab_,XOp.run,by_,cb_,e0_,nd_,oP]
 .cases hl;obtain ⟨s1,s2⟩:=ag_ hs;obtain ⟨s2,_⟩:=ag_ s2
  grind [ab_,XOp.run,cb_,oV]
 .cases hl;obtain ⟨s1,s2⟩:=ag_ hs;obtain ⟨s2,_⟩:=ag_ s2
  grind [ab_,XOp.run,cb_,oV]
 .cases hl;obtain ⟨s1,_⟩:=ag_ hs
  grind [ab_,XOp.run,cb_,oV]
 .cases hl;obtain ⟨s1,_⟩:=ag_ hs
  grind [ab_,XOp.run,by_,cb_,ng_,oV]
 .cases hl;obtain ⟨s1,_⟩:=ag_ hs
  grind [ab_,XOp.run,cb_,oV]
 .rename_i t x lo hi mx ho;cases mx with
  |some _=>cases hl
  |none=>
   cases lo with
   |none=>
    cases hi with
    |none=>
     cases hl;obtain ⟨s1,_⟩:=ag_ hs
     grind [ab_,XOp.run,by_,nx_,cb_,dg_,oV]
    |some b=>
     cases hl;obtain ⟨s1,s2⟩:=ag_ hs;obtain ⟨s2,_⟩:=ag_ s2
     grind [ab_,XOp.run,by_,nx_,cb_,dg_,oV]
   |some a=>
    cases hi with
    |none=>
     cases hl;obtain ⟨s1,s2⟩:=ag_ hs;obtain ⟨s2,_⟩:=ag_ s2
     grind [ab_,XOp.run,by_,nx_,cb_,dg_,oV]
    |some b=>
     cases hl;obtain ⟨s1,s2⟩:=ag_ hs;obtain ⟨s2,s3⟩:=ag_ s2;obtain ⟨s3,_⟩:=ag_ s3
     grind [ab_,XOp.run,by_,nx_,cb_,dg_,oV]
 .cases hl;obtain ⟨s1,_⟩:=ag_ hs
  grind [ab_,XOp.run,cb_]
 .rename_i c ho;split at hl
  .rename_i b hb;split at hl
   .split at hl
    .cases hl;obtain ⟨s1,_⟩:=ag_ hs
     grind [ab_,XOp.run,by_,dR_,cb_,pp_,oV]
    cases hl
   all_goals grind
  cases hl
 cases hl
theorem uv_ {o:Oper} {mx:Bool} {args:List AV} {T:Tm} (hl:cw_ T o=some (.mm mx,args)):∃x y ty,o.op=.call ⟨.builtin (match mx with|true=>.max|false=>.min),#[x,y],ty⟩/\args=[look T x,look T y]:=by
 unfold cw_ at hl;split at hl<;>(first|(cases hl;done)|skip)
 .grind
 .rename_i c ho;split at hl
  .rename_i b hb;obtain ⟨callee,cargs,ty⟩:=c;subst hb;split at hl
   .grind
   .split at hl
    .rename_i x y h1;have h1:=ak_ h1
     grind
    cases hl
   .split at hl
    .rename_i x y h1;have h1:=ak_ h1
     grind
    cases hl
   cases hl
  cases hl
theorem nv_ {o:Oper} {op:XOp} {args:List AV} {T:Tm} (hl:cw_ T o=some (op,args)) (hs:ad_ args=true) {B:World} {pr:Nat->Prop} {E:Env} {a:Act} {w:World} {H:AHeap} {N:Nat} {r:AV} (hr:op.run P (ab_ E.sy args)=some r)
  (hrel:Rel B pr E H w) (ht:TRel E N T a.tmps):∃E' n v w',(execOp a.eval o).run P w=.ok n w'/\(n=.value v\/(n=.skip/\v=undef))/\E.le E'/\Rel B pr E' H w'/\Con E' r v:=by
 by_cases hmm:∃mx,op=.mm mx
 .obtain ⟨mx,rfl⟩:=hmm;obtain ⟨x,y,ty,ho,rfl⟩:=uv_ hl;obtain ⟨s1,s2⟩:=ag_ hs;obtain ⟨s2,_⟩:=ag_ s2;have c1:=ao_ s1 (ht.look x);have c2:=ao_ s2 (ht.look y);simp only [ab_,XOp.run]at hr;split at hr
  .rename_i k p hp;split at hr
   .rename_i k' q hq;split at hr
    .cases hr;rw [hp]at c1;rw [hq]at c2;simp only [Con0]at c1 c2;have e:Array.map a.eval #[x,y]= #[a.eval x,a.eval y]:=(by simp);cases mx with
     |true=>refine ⟨E,.value (.int k (max p q)),_,w,?_,.inl rfl,Env.le_refl E,hrel,by simp [Con]⟩;unfold execOp;simp only [ho,resolve,Sem.run_bind,Sem.run_pure,Result.andThen_ok,invoke,builtin,e,c1,c2];simp [Builtin.max_,Builtin.max2,Int.max_def];omega
     |false=>refine ⟨E,.value (.int k (min p q)),_,w,?_,.inl rfl,Env.le_refl E,hrel,by simp [Con]⟩;unfold execOp;simp only [ho,resolve,Sem.run_bind,Sem.run_pure,Result.andThen_ok,invoke,builtin,e,c1,c2];simp [Builtin.min_,Builtin.min2,Int.min_def];omega
    cases hr
   cases hr
  cases hr
 exact gw_ hrel (λx=>sy_ ht x) (tw_ hl (λmx h=>hmm ⟨mx,h⟩) hs hr H)
theorem f6_ {o:Oper} {op:XOp} {args:List AV} {T:Tm} (hl:cw_ T o=some (op,args)) (hs:ad_ args=true) {Y:Sy} {r:AV} (hr:op.run P (ab_ Y.v args)=some r)
  {B:World} {pr:Nat->Prop} {E:Env} {a:Act} {w:World} {H:AHeap} {D:Dfs} (hy:E.At Y) (st:St P B pr N E T H D a w):
  ∃E' n v w',(execOp a.eval o).run P w=.ok n w'/\(n=.value v\/(n=.skip/\v=undef))/\E.le E'/\St P B pr N E' T H D a w'/\Con E' r v:=by
 have hE:E.sy=Y.v:=hy.v;rw [←hE]at hr;obtain ⟨E',n,v,w',h1,h2,h3,h4,h5⟩:=nv_ hl hs hr st.r st.t;exact ⟨E',n,v,w',h1,h2,h3,⟨st.t.mono h3,h4,st.d.mono h3⟩,h5⟩
theorem KnownF.sub {Y Y':Sy} (h:KnownF P fc Y) (hs:∀i x,Y.v i=some x->Y'.v i=some x) (hl:∀i,i<64->Y'.v i=Y.v i):KnownF P fc Y':=
 ⟨λf hf=>by
  obtain ⟨h1,h2,a,h3,h4⟩:=h.1 f hf
  grind,λq hq B pr E H w vs hy=>h.2 q hq B pr E H w vs λi hi=>(hy i hi).trans (hl i hi)⟩
omit [Gl]in
theorem lW_:∀{l:List XF} {f:FuncId} {args:List AV} {v:AV},oq_ l f args=some v->⟨f,args,v⟩∈l
 |[],f,args,v,h=>by cases h
 |q::r,f,args,v,h=>by unfold oq_ at h;split at h;rename_i hb;cases h;obtain ⟨h1,h2⟩:=aa_ hb;have h1:=Nat.eq_of_beq_eq_true h1;have h2:=bj_ h2;subst h1 h2;exact List.mem_cons_self ..;exact List.mem_cons_of_mem _ (lW_ h)
theorem ly_ {o:Oper} {S:XS} {Y:Sy} {D:Dfs} (hfc:KnownF P fc Y) {u:Tm->AV->Tm} {next:KP} {v:AV} (hv:n5_ fc.x S.T o=some v) (hn:next Y (u S.T v) S.H D):eO_ P N k o u Y S.T S.H D next:=by
 unfold n5_ at hv;split at hv
 .rename_i c ho;split at hv
  .rename_i f hf;split at hv
   .rename_i id;have hq:=hfc.2 _ (lW_ hv);refine ⟨Y,v,S.H,hn,λB pr E a w hy st=>?_⟩;have hcon:ConL E (js_ (look S.T) c.args.toList) (c.args.toList.map a.eval):=eA_ (λx=>st.t.look x) _;obtain ⟨w1,h1,h2⟩:=hq B pr E S.H w _ (λi _=>by rw [hy.v]) st.t.gl st.r hcon;refine ⟨E,.value w1,w1,w,?_,.inl rfl,Env.leF_refl k E,hy,st,h2⟩;obtain ⟨callee,args,argTypes⟩:=c;have e:(⟨args.toList.map a.eval⟩:Array Value)=args.map a.eval:=(by grind);have ev:a.eval (.func id)=.func (.func id) #[] #[]:=rfl
    grind [execOp,resolve,Deferred.ofValue,invoke]
   cases hv
  cases hv
 cases hv
omit [Gl]in
theorem lV_:∀{l:List Fact} {op:XOp} {args:List AV} {v:AV},jR_ l op args=some v->∃f∈l,∃t cx cy x y,op=.bin f.o t cx cy/\args=[x,y]/\v=f.v/\f.has f.o x y=true
 |[],op,args,v,h=>by cases h
 |f::r,op,args,v,h=>by unfold jR_ at h;split at h;rename_i o t cx cy x y;split at h;rename_i hb;cases h;have h1:o=f.o:=of_decide_eq_true (aa_ hb).1;subst h1;exact ⟨f,List.mem_cons_self ..,t,cx,cy,x,y,rfl,rfl,rfl,hb⟩;obtain ⟨f',hf,h⟩:=lV_ h;exact ⟨f',List.mem_cons_of_mem _ hf,h⟩;cases h
theorem op_ {o:Oper} {op:XOp} {args:List AV} {S:XS} {Y:Sy} {D:Dfs} (hfc:KnownF P fc Y) (hl:cw_ S.T o=some (op,args)) (hs:ad_ args=true) {u:Tm->AV->Tm} {next:KP} {v:AV}
  (hv:jR_ fc.b op args=some v) (hn:next Y (u S.T v) S.H D):eO_ P N k o u Y S.T S.H D next:=by
 obtain ⟨f,hf,t,cx,cy,x,y,rfl,rfl,rfl,hb⟩:=lV_ hv;obtain ⟨h1,h2,a,h3,h4⟩:=hfc.1 f hf;have hr:(XOp.bin f.o t cx cy).run P (ab_ Y.v [x,y])=some f.v:=by
  have h4:=h4 t cx cy;have hb:=(aa_ hb).2;cases hl:f.l with
  |true=>
   grind [aD_,ab_,den,XOp.run,hB_]
  |false=>
   grind [aD_,ab_,den,XOp.run,hB_]
 refine ⟨Y,f.v,S.H,hn,λB pr E a w hy st=>?_⟩;obtain ⟨E',n,v,w',g1,g2,g3,st',g5⟩:=f6_ hl hs hr hy st;exact ⟨E',n,v,w',g1,g2,g3.leF k,hy.le g3,st',g5⟩
theorem qQ_ {o:Oper} {op:XOp} {args:List AV} {S:XS} {Y:Sy} (hf:Fresh Y S.n/\KnownF P fc Y) (hl:cw_ S.T o=some (op,args)) (hs:ad_ args=true) {u:Tm->AV->Tm} {next:KP} {m:Option Nat} {t:Tree}
  (ht:a3_ P Q Y (.lt op args S.n m t)) (hn:∀Y' x n',Fresh Y' n'/\KnownF P fc Y'->a3_ P Q Y' t->(m=none->x=.sym S.n/\n'=Nat.succ S.n)->(∀j,m=some j->x=.agg (ai_ S.n j)/\n'=Nat.add S.n j)->next Y' (u S.T x) S.H []):
  eO_ P N k o u Y S.T S.H [] next:=by
 cases m with
 |none=>obtain ⟨r,hr,hok,htree⟩:=ht;refine ⟨Y.put S.n r,.sym S.n,S.H,hn _ _ _ ⟨hf.1.put r,hf.2.sub (hf.1.sub_put r) (hf.1.low r)⟩ htree (λ_=>⟨rfl,rfl⟩) (λj e=>by cases e),λB pr E a w hy st=>?_⟩;obtain ⟨E',n,v,w',h1,h2,h3,st',h5⟩:=f6_ hl hs hr hy st;have hy':=hy.le h3;have hv:∀i x,E'.sy i=some x->(Y.put S.n r).v i=some x:=λi x hx=>hf.1.sub_put r i x (by rw [←hy'.v];exact hx);have hll:∀i l,E'.syl i=some l->(Y.put S.n r).l i=some l:=λi l hx=>(by rw [hy'.l]at hx;exact hx);have hlo:∀i,i<64->(Y.put S.n r).v i=E'.sy i:=λi hi=>(by rw [hy'.v];exact hf.1.low r i hi);refine ⟨E'.with (Y.put S.n r),n,v,w',h1,h2,(h3.leF k).trans (Env.with_leF k hlo),⟨rfl,rfl,hy'.res⟩,st'.with hv hll hlo,?_⟩;exact ⟨r,Sy.put_same _ _ _,be_ hok,(bB_ hok h5).with⟩
 |some j=>obtain ⟨cs,hr,hlen,hok,htree⟩:=ht;obtain ⟨f1,f2,f3,f4⟩:=hf.1.puts cs;refine ⟨Y.puts S.n cs,.agg (ai_ S.n j),S.H,hn _ _ (Nat.add S.n j) ⟨by grind,hf.2.sub f2 f4⟩ htree (λe=>by cases e) (λj' e=>by grind),λB pr E a w hy st=>?_⟩;obtain ⟨E',n,v,w',h1,h2,h3,st',h5⟩:=f6_ hl hs hr hy st;have hy':=hy.le h3;have hv:∀i x,E'.sy i=some x->(Y.puts S.n cs).v i=some x:=λi x hx=>f2 i x (by rw [←hy'.v];exact hx);have hll:∀i l,E'.syl i=some l->(Y.puts S.n cs).l i=some l:=λi l hx=>(by rw [f3];rw [hy'.l]at hx;exact hx);have hlo:∀i,i<64->(Y.puts S.n cs).v i=E'.sy i:=λi hi=>(by rw [hy'.v];exact f4 i hi);refine ⟨E'.with (Y.puts S.n cs),n,v,w',h1,h2,(h3.leF k).trans (Env.with_leF k hlo),⟨rfl,rfl,hy'.res⟩,st'.with hv hll hlo,?_⟩;obtain ⟨vs,rfl,hL⟩:=h5;refine ⟨vs,rfl,?_⟩;rw [←hlen];exact bs_ S.n cs vs hok (λi a ha=>bI_ cs hf.1 i a ha) (bl_ (E:=E') (E':=E'.with (Y.puts S.n cs)) (λ_ _ _ h=>h) (bf_ hok hL))
theorem cx_ {T:Tm} {c:Operand} {i:Nat} (h:gY_ T c=some i) (S:XS) (hS:S.T=T) (b:Bool):look (S.know i b).T c=.bool b:=by
 subst hS;unfold gY_ at h;split at h
 .rename_i t;split at h
  .rename_i hb;unfold ry_ at h;split at h
   .have e1:look (S.know i b).T (.tmp t)=tget (S.know i b).T t:=(by unfold look aR_;simp only [hb];rfl);rw [e1];show tget (bd_ (gX_ i b) S.T) t=_
    grind [aH_,gX_,Nat.beq_refl]
   cases h
  cases h
 cases h
omit [Gl]in
theorem fw_ {all:List Oper} {o:Oper} {g:Tm->Option Bool} (hg:aT_ all o=.mk g) {S:XS} {t:Bool} (h:g S.T=some t) (i:Nat) (b:Bool):g (S.know i b).T=some t:=by
 unfold aT_ at hg;split at hg;cases hg
 .rename_i j want hgu;split at hg
  .split at hg
   .rename_i d hd;split at hg
    .cases hg;have e:(acs d).f (S.know i b).T=gX_ i b ((acs d).f S.T):=aH_ _ _ _;show bk_ ((acs d).f (S.know i b).T) want=some t;have h:bk_ ((acs d).f S.T) want=some t:=h;rw [e];generalize (acs d).f S.T=x at h⊢;cases x<;>first|exact h|(simp [bk_]at h)
    grind
   grind
  grind
theorem rW_ (hc:an_ P (aM_ P fuel)) {o:Oper} {u:Tm->AV->Tm} {S:XS} {kt:XS->Tree} {next:KP} {X:XP} (hnext:∀Y S,Fresh Y S.n/\KnownF P fc Y->a3_ P Q Y (kt S)->next Y S.T S.H [])
  {Y:Sy} (hf:Fresh Y S.n/\KnownF P fc Y) (h:a3_ P Q Y (rV_ P fuel fc o u S kt)):
  ∃S':XS,(S'=S\/∃i b,Y.v i=some (.bool b)/\S'=S.know i b)/\(cF_ P o u Y S'.T S'.H [] next X\/eO_ P N k o u Y S'.T S'.H [] next):=by
 unfold rV_ at h;split at h
 .rename_i r hrun;refine ⟨S,.inl rfl,.inl ?_⟩;unfold cF_;rw [hrun];split at h
  .grind
  .rename_i g args;split at h
   .rename_i r hcall;split at h
    .refine λB pr E w vs hy hg hr hcon=>Calls.mono (hc g args S.H _ hcall B pr E w vs hg hr hcon) λe w' he=>⟨_,?_,he⟩
     grind
    exact h.elim
   exact h.elim
  exact h.elim
 .split at h
  .rename_i i a b hp;obtain ⟨t,ht,h1,h2⟩:=h;unfold gb_ at hp;split at hp
   .rename_i c a' b' ho;split at hp
    .rename_i i' hl;cases hp;have hst:(ac_ P o).run (S.know i t).T (S.know i t).H=some (.val (match t with|true=>look (S.know i t).T a|false=>look (S.know i t).T b) S.H):=by unfold ac_;rw [ho];show OC.run (.po λT=>mq_ (look T c) (look T a) (look T b)) _ _=_;unfold OC.run;simp only;rw [cx_ hl S rfl t];cases t<;>rfl
     unfold cF_
     grind
    cases hp
   cases hp
  .split at h;rename_i v hv;exact ⟨S,.inl rfl,.inr (ly_ hf.2 hv (hnext Y ⟨u S.T v,S.H,S.n⟩ hf h))⟩;split at h
   .rename_i op args hl;split at h
    .rename_i hs;refine ⟨S,.inl rfl,.inr ?_⟩;split at h
     .split at h
      .grind [op_]
      .refine qQ_ hf hl hs h λY' x n' f1 f2 f3 f4=>?_
       grind
     .refine qQ_ hf hl hs h λY' x n' f1 f2 f3 f4=>?_
      grind
    exact h.elim
   exact h.elim
theorem tZ_ (hc:an_ P (aM_ P fuel)) {all:List Oper} {o:Oper} {u:Tm->AV->Tm} {S:XS} {kt:XS->Tree} {next:KP} {X:XP} (hnext:∀Y S,Fresh Y S.n/\KnownF P fc Y->a3_ P Q Y (kt S)->next Y S.T S.H [])
  {Y:Sy} (hf:Fresh Y S.n/\KnownF P fc Y) (h:a3_ P Q Y (xOp P fuel fc all o u kt S)):
  ∃S':XS,(S'=S\/∃i b,Y.v i=some (.bool b)/\S'=S.know i b)/\∃t,(match aT_ all o with
    | .always=>some true
    | .mk g=>g S'.T)=some t/\(t=true->cF_ P o u Y S'.T S'.H [] next X\/eO_ P N k o u Y S'.T S'.H [] next)/\(t=false->next Y (u S'.T (.tup [])) S'.H []):=by
 unfold xOp xOp.guardE' at h;split at h
 .rename_i t ht;split at h
  .grind
  .obtain ⟨S',h1,h2⟩:=rW_ (N:=N) (k:=k) (X:=X) hc hnext hf h;rcases h1 with rfl|⟨i,b,hb,rfl⟩<;>grind [fw_]
 exact h.elim
theorem pa_ (hc:an_ P (aM_ P fuel)) {all:List Oper} {X:XP} {K:XS->Tree}:∀(l:List Oper) (S:XS) (Y:Sy),Fresh Y S.n/\KnownF P fc Y->a3_ P Q Y (nY_ P N fuel fc all l S K)->fH_ P N k all l Y S.T S.H [] (kOf P Q fc K) X
 |[],S,Y,hf,h=>⟨rfl,S.n,hf,h⟩
 |o::r,S,Y,hf,h=>by
  have ih:=pa_ hc (all:=all) (X:=X) (K:=K) r;have fin:∀(S1:XS) (u:Tm->AV->Tm),bN_ N o.dst=.mk u->Weak P N k Y S.T S.H [] Y S1.T S1.H []->Fresh Y S1.n/\KnownF P fc Y->a3_ P Q Y (xOp P fuel fc all o u (λS=>nY_ P N fuel fc all r S K) S1)->fH_ P N k all (o::r) Y S.T S.H [] (kOf P Q fc K) X:=by
   intro S1 u hu hw hf1 h1;obtain ⟨S',h2,t,ht,h3,h4⟩:=tZ_ (N:=N) (k:=k) (X:=X) (next:=λY T H D=>fH_ P N k all r Y T H D (kOf P Q fc K) X) hc (λY S hf h=>ih S Y hf h) hf1 h1;have hw':Weak P N k Y S1.T S1.H [] Y S'.T S'.H []:=by rcases h2 with rfl|⟨i,b,hb,rfl⟩;simp [Weak.refl];exact b0_ hb S1 []
   refine ⟨Y,S'.T,S'.H,[],hw.trans hw',?_⟩
   grind
  unfold nY_ at h;split at h;exact h.elim
  .rename_i u hu;split at h
   .rename_i i hg;obtain ⟨t,ht,h1,h2⟩:=h;cases t with
    |true=>exact fin (S.know i true) u hu (b0_ ht S []) hf (h1 rfl)
    |false=>exact fin (S.know i false) u hu (b0_ ht S []) hf (h2 rfl)
   grind [Weak.refl]
theorem rU_ {b:Code} {bS:XS->(XS->Tree)->Tree} {X:XP} {K:KP} (hb:∀S K Y,Fresh Y S.n/\KnownF P fc Y->a3_ P Q Y (bS S K)->aC_ P N k b Y S.T S.H [] (kOf P Q fc K) X) (m:Nat) (S:XS) (Y:Sy) (hf:Fresh Y S.n/\KnownF P fc Y)
  (h:a3_ P Q Y (o9_ bS m S)):aC_ P N k (.loop b) Y S.T S.H [] K X:=by
 refine ⟨{ p:Nat×Sy×XS // (Fresh p.2.1 p.2.2.n/\KnownF P fc p.2.1)/\a3_ P Q p.2.1 (o9_ bS p.1 p.2.2) },λp=>⟨p.1.2.1,p.1.2.2.T,p.1.2.2.H,[]⟩,λp=>p.1.1,⟨(m,Y,S),hf,h⟩,Weak.refl _ _ _ _ _ _ _,λp=>?_⟩;obtain ⟨⟨m,Y,S⟩,hf,h⟩:=p;cases m with
 |zero=>exact h.elim
 |succ m=>refine au_ b (λY' T' H' D' hk=>?_) (λ_ _ h=>h) _ _ _ _ (hb S _ Y hf h);obtain ⟨rfl,n',hf',h'⟩:=hk;exact ⟨⟨(m,Y',⟨T',H',n'⟩),hf',h'⟩,Nat.lt_succ_self m,Weak.refl _ _ _ _ _ _ _⟩
theorem ce_ (hc:an_ P (aM_ P fuel)):∀(c:Code) (S:XS) (K:XS->Tree) (X:XX->Tree) (Y:Sy),Fresh Y S.n/\KnownF P fc Y->a3_ P Q Y (dj_ P N fuel fc c S K X)->aC_ P N k c Y S.T S.H [] (kOf P Q fc K) (xOf P Q fc X)
 | .skip,S,K,X,Y,hf,h=>by exact ⟨rfl,S.n,hf,h⟩
 | .label _,S,K,X,Y,hf,h=>by exact ⟨rfl,S.n,hf,h⟩
 | .exit id,S,K,X,Y,hf,h=>by exact ⟨rfl,S.n,hf,h⟩
 | .ret,S,K,X,Y,hf,h=>by exact ⟨rfl,S.n,hf,h⟩
 | .region id ops false,S,K,X,Y,hf,h=>by grind [dj_,aC_,pa_]
 | .region id ops true,S,K,X,Y,hf,h=>by unfold dj_ at h;simp only at h;split at h;rename_i r hd;split at h;split at h;exact .inl ⟨Y,S.T,S.H,[],Weak.refl _ _ _ _ _ _ _,aM_ P fuel,_,hc,hd,rfl,S.n,hf,h⟩;exact h.elim;exact h.elim;exact h.elim
 | .seq a b,S,K,X,Y,hf,h=>by refine au_ a (λY' T' H' D' hk=>?_) (λ_ _ h=>h) _ _ _ _ (ce_ hc a S _ X Y hf h);obtain ⟨rfl,n',hf',h'⟩:=hk;exact ce_ hc b ⟨T',H',n'⟩ K X Y' hf' h'
 | .cond c a b,S,K,X,Y,hf,h=>by unfold dj_ at h;split at h;rename_i t ht;refine ⟨Y,S.T,S.H,[],Weak.refl _ _ _ _ _ _ _,t,ht,λe=>?_,λe=>?_⟩;subst e;exact ce_ hc a S K X Y hf h;subst e;exact ce_ hc b S K X Y hf h;split at h;rename_i i hi;obtain ⟨t,ht,h1,h2⟩:=h;refine ⟨Y,(S.know i t).T,(S.know i t).H,[],b0_ ht S [],t,cx_ hi S rfl t,λe=>?_,λe=>?_⟩;subst e;exact ce_ hc a (S.know i true) K X Y hf (h1 rfl);subst e;exact ce_ hc b (S.know i false) K X Y hf (h2 rfl);exact h.elim
 | .block id b,S,K,X,Y,hf,h=>by
   refine au_ b (λ_ _ _ _ h=>h) (λY' r hx=>?_) _ _ _ _ (ce_ hc b S K (tX_ id K X) Y hf h);cases r with
   |norm T H D=>exact hx.elim
   |pan v T H D=>exact hx.elim
   |ret T H D=>exact hx
   |exit id' T H D=>
    obtain ⟨rfl,n,hf',h'⟩:=hx;unfold tX_ at h';simp only at h';cases hb:Nat.beq id' id with
    |true=>rw [hb]at h';exact ⟨λ_=>⟨rfl,n,hf',h'⟩,λe=>absurd (Nat.eq_of_beq_eq_true hb) e⟩
    |false=>rw [hb]at h';refine ⟨λe=>?_,λ_=>⟨rfl,n,hf',h'⟩⟩;simp_all
 | .loop b,S,K,X,Y,hf,h=>by unfold dj_ at h;exact rU_ (λS K Y hf h=>ce_ hc b S K X Y hf h) fuel S Y hf h
 | .scope _,S,K,X,Y,hf,h=>by exact h.elim
 | .goto _,S,K,X,Y,hf,h=>by exact h.elim
 | .refuse _,S,K,X,Y,hf,h=>by exact h.elim
 | .rangeFunc _ _ _ _,S,K,X,Y,hf,h=>by exact h.elim
def eP_ (Q:AV->Prop) (Y:Sy) (r:FRes):Prop:=∃a H1 v m,r=.ret a H1/\ef_ m H1 a=some v/\ae_ v=true/\Q (den Y.v v)
theorem rT_ (hm:P.follows .mixedOrders=true) (hc:an_ P (aM_ P fuel)) {f:FuncId} {args:List AV} {n:Nat} {Y:Sy} (hf:Fresh Y n/\KnownF P fc Y) (h:a3_ P Q Y (xFn P fuel fc f args n)):SemCallF P 0 Y f args H0 (eP_ Q):=by
 unfold xFn at h;split at h
 .rename_i fn hfn;split at h
  .rename_i c hb;split at h
   .rename_i hle;obtain ⟨h1,h2⟩:=aa_ hle;have h1:args.length<=fn.ntmps:=(by grind [aj_,Nat.ble_eq]);have h2:fn.ntmps<=512:=(by simp_all);have fin:∀Y' S,a3_ P Q Y' (o8_ P fn.results.toList S)->d6_ P 0 fn (eP_ Q) Y' S.T S.H [] none:=by intro Y' S h;unfold o8_ at h;split at h;rename_i l hl;split at h;rename_i v hv;split at h;rename_i hs;exact .inl ⟨aM_ P fuel,0,.ret (rj_ l) S.H,hc,by grind [cC_],rj_ l,S.H,v,100,rfl,hv,hs,h⟩;exact h.elim;exact h.elim;exact h.elim
    refine nX_ hm hfn hb ⟨h1,h2,au_ c (λY' T' H' D' hk=>?_) (λY' r hx=>?_) _ _ _ _ (ce_ hc c _ _ _ Y hf h)⟩
    .obtain ⟨rfl,n',hf',h'⟩:=hk
     grind
    .cases r with
     |norm T H D=>exact hx.elim
     |pan v T H D=>exact hx.elim
     |exit id T H D=>obtain ⟨rfl,n',hf',h'⟩:=hx;exact h'.elim
     |ret T H D=>obtain ⟨rfl,n',hf',h'⟩:=hx;exact fin Y' ⟨T,H,n'⟩ h'
   exact h.elim
  exact h.elim
 exact h.elim
end
end Go.Sx
