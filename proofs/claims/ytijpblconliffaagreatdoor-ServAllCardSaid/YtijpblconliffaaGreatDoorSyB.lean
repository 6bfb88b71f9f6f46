/-
  Readings: symbols are put in, values that are known to the end, states that are known in another way.
-/
import Derived.Test.YtijpblconliffaaGreatDoorSyA
set_option linter.unusedVariables false
set_option linter.unusedSimpArgs false
namespace Go.Sx
mutual
def den (s:Nat->Option AV):AV->AV
 | .sym i=>match s i with
   |some a=>a
   |none=>.opq
 | .vptr cs=>.vptr (ab_ s cs)
 | .vsl n z cs=>.vsl n z (ab_ s cs)
 | .fn f cs=>.fn f (ab_ s cs)
 | .iface t a=>.iface t (den s a)
 | .agg cs=>.agg (ab_ s cs)
 | .tup cs=>.tup (ab_ s cs)
 |a=>a
def ab_ (s:Nat->Option AV):List AV->List AV
 |[]=>[]
 |a::r=>den s a::ab_ s r
end
mutual
def ae_:AV->Bool
 | .opq| .ptr _ _| .sl _ _ _ _ _| .map _| .slx _ _ _| .ptx _ _ _ _=>false
 | .vptr cs=>ad_ cs
 | .vsl _ _ cs=>ad_ cs
 | .fn _ cs=>ad_ cs
 | .iface _ a=>ae_ a
 | .agg cs=>ad_ cs
 | .tup cs=>ad_ cs
 |_=>true
def ad_:List AV->Bool
 |[]=>true
 |a::r=>match ae_ a with
  |true=>ad_ r
  |false=>false
end
mutual
def okC:AV->Bool
 | .bool _| .int _ _| .flt _ _| .nan _| .str _| .nptr| .nsl| .nmap| .nfn| .nif=>true
 | .vptr cs=>okL cs
 | .vsl _ _ cs=>okL cs
 | .fn _ cs=>okL cs
 | .iface _ a=>okI a
 |_=>false
def okI:AV->Bool
 | .agg cs=>okL cs
 | .bool _| .int _ _| .flt _ _| .nan _| .str _| .nptr| .nsl| .nmap| .nfn| .nif=>true
 | .vptr cs=>okL cs
 | .vsl _ _ cs=>okL cs
 | .fn _ cs=>okL cs
 | .iface _ a=>okI a
 |_=>false
def okL:List AV->Bool
 |[]=>true
 |a::r=>match okC a with
  |true=>okL r
  |false=>false
end
theorem aY_ {a:AV} {r:List AV}:okL (a::r)=(okC a&&okL r):=by
 grind [okL]
theorem bj_ {a:AV} (h:okC a=true):a.one=true:=by cases a<;>first|rfl|(simp [okC]at h)
mutual
theorem an_ {E:Env}:∀{a:AV} {v:Value},ae_ a=true->Con E a v->Con0 E (den E.sy a) v
 | .opq,_,h,_=>by simp [ae_]at h
 | .bool _,_,_,hc=>by grind [den,Con0,Con]
 | .int _ _,_,_,hc=>by grind [den,Con0,Con]
 | .flt _ _,_,_,hc=>by grind [den,Con0,Con]
 | .nan _,_,_,hc=>by grind [den,Con0,Con]
 | .str _,_,_,hc=>by grind [den,Con0,Con]
 | .nptr,_,_,hc=>by grind [den,Con0,Con]
 | .ptr id off,v,h,hc=>by simp [ae_]at h
 | .vptr cs,v,h,hc=>by simp only [ae_]at h;simp only [Con]at hc;simp only [den,Con0];obtain ⟨b,o,vs,h1,h2,h3⟩:=hc;exact ⟨b,o,vs,h1,bG_ h h2,h3⟩
 | .nsl,_,_,hc=>by grind [den,Con0,Con]
 | .sl ..,v,h,hc=>by simp [ae_]at h
 | .vsl _ _ cs,v,h,hc=>by obtain ⟨b,o,vs,c,h1,h2,h3,h4⟩:=hc;exact ⟨b,o,vs,c,h1,h2,bG_ h h3,h4⟩
 | .nmap,_,_,hc=>by grind [den,Con0,Con]
 | .map id,v,h,hc=>by simp [ae_]at h
 | .nfn,_,_,hc=>by grind [den,Con0,Con]
 | .fn f cap,v,h,hc=>by simp only [ae_]at h;simp only [Con]at hc;simp only [den,Con0];obtain ⟨vs,h1,h2⟩:=hc;exact ⟨vs,h1,bG_ h h2⟩
 | .nif,_,_,hc=>by grind [den,Con0,Con]
 | .iface t a,v,h,hc=>by simp only [ae_]at h;simp only [Con]at hc;simp only [den,Con0];obtain ⟨u,h1,h2⟩:=hc;exact ⟨u,h1,an_ h h2⟩
 | .agg cs,v,h,hc=>by simp only [ae_]at h;simp only [Con]at hc;simp only [den,Con0];obtain ⟨vs,h1,h2⟩:=hc;exact ⟨vs,h1,bG_ h h2⟩
 | .tup cs,v,h,hc=>by simp only [ae_]at h;simp only [Con]at hc;simp only [den,Con0];obtain ⟨vs,h1,h2⟩:=hc;exact ⟨vs,h1,bG_ h h2⟩
 | .sym i,v,h,hc=>by
   grind [Con,den]
 | .slx ..,v,h,hc=>by simp [ae_]at h
 | .ptx ..,v,h,hc=>by simp [ae_]at h
theorem bG_ {E:Env}:∀{as:List AV} {vs:List Value},ad_ as=true->ConL E as vs->Con0L E (ab_ E.sy as) vs
 |[],_,_,hc=>by grind [ab_,ConL,Con0L]
 |a::as,vs,h,hc=>by
  simp only [ad_]at h;simp only [ConL]at hc;simp only [ab_,Con0L];obtain ⟨v,r,h1,h2,h3⟩:=hc;cases ha:ae_ a with
  |true=>rw [ha]at h;exact ⟨v,r,h1,an_ ha h2,bG_ h h3⟩
  |false=>rw [ha]at h;cases h
end
mutual
theorem oj_ {E:Env} (ho:∀i a,E.sy i=some a->a.one=true):∀{a:AV} {v:Value},ae_ a=true->Con0 E (den E.sy a) v->Con E a v
 | .opq,_,h,_=>by simp [ae_]at h
 | .bool _,_,_,hc=>by grind [den,Con0,Con]
 | .int _ _,_,_,hc=>by grind [den,Con0,Con]
 | .flt _ _,_,_,hc=>by grind [den,Con0,Con]
 | .nan _,_,_,hc=>by grind [den,Con0,Con]
 | .str _,_,_,hc=>by grind [den,Con0,Con]
 | .nptr,_,_,hc=>by grind [den,Con0,Con]
 | .ptr id off,v,h,hc=>by simp [ae_]at h
 | .vptr cs,v,h,hc=>by simp only [ae_]at h;simp only [den,Con0]at hc;simp only [Con];obtain ⟨b,o,vs,h1,h2,h3⟩:=hc;exact ⟨b,o,vs,h1,cY_ ho h h2,h3⟩
 | .nsl,_,_,hc=>by grind [den,Con0,Con]
 | .sl ..,v,h,hc=>by simp [ae_]at h
 | .vsl _ _ cs,v,h,hc=>by obtain ⟨b,o,vs,c,h1,h2,h3,h4⟩:=hc;exact ⟨b,o,vs,c,h1,h2,cY_ ho h h3,h4⟩
 | .nmap,_,_,hc=>by grind [den,Con0,Con]
 | .map id,v,h,hc=>by simp [ae_]at h
 | .nfn,_,_,hc=>by grind [den,Con0,Con]
 | .fn f cap,v,h,hc=>by simp only [ae_]at h;simp only [den,Con0]at hc;simp only [Con];obtain ⟨vs,h1,h2⟩:=hc;exact ⟨vs,h1,cY_ ho h h2⟩
 | .nif,_,_,hc=>by grind [den,Con0,Con]
 | .iface t a,v,h,hc=>by simp only [ae_]at h;simp only [den,Con0]at hc;simp only [Con];obtain ⟨u,h1,h2⟩:=hc;exact ⟨u,h1,oj_ ho h h2⟩
 | .agg cs,v,h,hc=>by simp only [ae_]at h;simp only [den,Con0]at hc;simp only [Con];obtain ⟨vs,h1,h2⟩:=hc;exact ⟨vs,h1,cY_ ho h h2⟩
 | .tup cs,v,h,hc=>by simp only [ae_]at h;simp only [den,Con0]at hc;simp only [Con];obtain ⟨vs,h1,h2⟩:=hc;exact ⟨vs,h1,cY_ ho h h2⟩
 | .sym i,v,h,hc=>by
   grind [den,Con,Con0]
 | .slx ..,v,h,hc=>by simp [ae_]at h
 | .ptx ..,v,h,hc=>by simp [ae_]at h
theorem cY_ {E:Env} (ho:∀i a,E.sy i=some a->a.one=true):∀{as:List AV} {vs:List Value},ad_ as=true->Con0L E (ab_ E.sy as) vs->ConL E as vs
 |[],_,_,hc=>by grind [ab_,ConL,Con0L]
 |a::as,vs,h,hc=>by
  simp only [ad_]at h;simp only [ab_,Con0L]at hc;simp only [ConL];obtain ⟨v,r,h1,h2,h3⟩:=hc;cases ha:ae_ a with
  |true=>rw [ha]at h;exact ⟨v,r,h1,oj_ ho ha h2,cY_ ho h h3⟩
  |false=>rw [ha]at h;cases h
end
mutual
theorem bR_ {E:Env}:∀{a:AV} {v:Value},okC a=true->Con E a v->Con0 E a v
 | .opq,_,h,_=>by simp [okC]at h
 | .bool _,_,_,hc=>by grind [Con0,Con]
 | .int _ _,_,_,hc=>by grind [Con0,Con]
 | .flt _ _,_,_,hc=>by grind [Con0,Con]
 | .nan _,_,_,hc=>by grind [Con0,Con]
 | .str _,_,_,hc=>by grind [Con0,Con]
 | .nptr,_,_,hc=>by grind [Con0,Con]
 | .ptr _ _,_,h,_=>by simp [okC]at h
 | .vptr cs,v,h,hc=>by simp only [okC]at h;simp only [Con]at hc;simp only [Con0];obtain ⟨b,o,vs,h1,h2,h3⟩:=hc;exact ⟨b,o,vs,h1,bp_ h h2,h3⟩
 | .nsl,_,_,hc=>by grind [Con0,Con]
 | .sl ..,_,h,_=>by simp [okC]at h
 | .vsl _ _ cs,v,h,hc=>by obtain ⟨b,o,vs,c,h1,h2,h3,h4⟩:=hc;exact ⟨b,o,vs,c,h1,h2,bp_ h h3,h4⟩
 | .nmap,_,_,hc=>by grind [Con0,Con]
 | .map _,_,h,_=>by simp [okC]at h
 | .nfn,_,_,hc=>by grind [Con0,Con]
 | .fn f cap,v,h,hc=>by simp only [okC]at h;simp only [Con]at hc;simp only [Con0];obtain ⟨vs,h1,h2⟩:=hc;exact ⟨vs,h1,bp_ h h2⟩
 | .nif,_,_,hc=>by grind [Con0,Con]
 | .iface t a,v,h,hc=>by simp only [okC]at h;simp only [Con]at hc;simp only [Con0];obtain ⟨u,h1,h2⟩:=hc;exact ⟨u,h1,iR_ h h2⟩
 | .agg _,_,h,_=>by simp [okC]at h
 | .tup _,_,h,_=>by simp [okC]at h
 | .sym _,_,h,_=>by simp [okC]at h
 | .slx ..,_,h,_=>by simp [okC]at h
 | .ptx ..,_,h,_=>by simp [okC]at h
theorem iR_ {E:Env}:∀{a:AV} {v:Value},okI a=true->Con E a v->Con0 E a v
 | .opq,_,h,_=>by simp [okI]at h
 | .bool _,_,_,hc=>by grind [Con0,Con]
 | .int _ _,_,_,hc=>by grind [Con0,Con]
 | .flt _ _,_,_,hc=>by grind [Con0,Con]
 | .nan _,_,_,hc=>by grind [Con0,Con]
 | .str _,_,_,hc=>by grind [Con0,Con]
 | .nptr,_,_,hc=>by grind [Con0,Con]
 | .ptr _ _,_,h,_=>by simp [okI]at h
 | .vptr cs,v,h,hc=>by simp only [okI]at h;simp only [Con]at hc;simp only [Con0];obtain ⟨b,o,vs,h1,h2,h3⟩:=hc;exact ⟨b,o,vs,h1,bp_ h h2,h3⟩
 | .nsl,_,_,hc=>by grind [Con0,Con]
 | .sl ..,_,h,_=>by simp [okI]at h
 | .vsl _ _ cs,v,h,hc=>by obtain ⟨b,o,vs,c,h1,h2,h3,h4⟩:=hc;exact ⟨b,o,vs,c,h1,h2,bp_ h h3,h4⟩
 | .nmap,_,_,hc=>by grind [Con0,Con]
 | .map _,_,h,_=>by simp [okI]at h
 | .nfn,_,_,hc=>by grind [Con0,Con]
 | .fn f cap,v,h,hc=>by simp only [okI]at h;simp only [Con]at hc;simp only [Con0];obtain ⟨vs,h1,h2⟩:=hc;exact ⟨vs,h1,bp_ h h2⟩
 | .nif,_,_,hc=>by grind [Con0,Con]
 | .iface t a,v,h,hc=>by simp only [okI]at h;simp only [Con]at hc;simp only [Con0];obtain ⟨u,h1,h2⟩:=hc;exact ⟨u,h1,iR_ h h2⟩
 | .agg cs,v,h,hc=>by simp only [okI]at h;simp only [Con]at hc;simp only [Con0];obtain ⟨vs,h1,h2⟩:=hc;exact ⟨vs,h1,bp_ h h2⟩
 | .tup _,_,h,_=>by simp [okI]at h
 | .sym _,_,h,_=>by simp [okI]at h
 | .slx ..,_,h,_=>by simp [okI]at h
 | .ptx ..,_,h,_=>by simp [okI]at h
theorem bp_ {E:Env}:∀{as:List AV} {vs:List Value},okL as=true->ConL E as vs->Con0L E as vs
 |[],_,_,hc=>by grind [Con0L,ConL]
 |a::as,vs,h,hc=>by rw [aY_]at h;obtain ⟨h1,h2⟩:=aa_ h;simp only [ConL]at hc;simp only [Con0L];obtain ⟨v,r,e,c1,c2⟩:=hc;exact ⟨v,r,e,bR_ h1 c1,bp_ h2 c2⟩
end
def Env.with (E:Env) (Y:Sy):Env:={ E with sy:=Y.v,syl:=Y.l }
theorem Con0.with {E:Env} {Y:Sy} {a:AV} {v:Value} (h:Con0 E a v):Con0 (E.with Y) a v:=b6_ (E:=E) (E':=E.with Y) (λ_ _ _ h=>h) h
mutual
theorem Con.with {E:Env} {Y:Sy} (hv:∀i a,E.sy i=some a->Y.v i=some a) (hl:∀i l,E.syl i=some l->Y.l i=some l):∀{a:AV} {v:Value},Con E a v->Con (E.with Y) a v
 | .opq,_,_=>by simp [Con]
 | .bool _,_,hc=>by grind [Con]
 | .int _ _,_,hc=>by grind [Con]
 | .flt _ _,_,hc=>by grind [Con]
 | .nan _,_,hc=>by grind [Con]
 | .str _,_,hc=>by grind [Con]
 | .nptr,_,hc=>by grind [Con]
 | .ptr id off,v,hc=>by simpa [Con,Env.with]using hc
 | .vptr cs,v,hc=>by obtain ⟨b,o,vs,h1,h2,h3⟩:=hc;exact ⟨b,o,vs,h1,ConL.with hv hl h2,h3⟩
 | .nsl,_,hc=>by grind [Con]
 | .sl ..,v,hc=>by simpa [Con,Env.with]using hc
 | .vsl ..,v,hc=>by obtain ⟨b,o,vs,c,h1,h2,h3,h4⟩:=hc;exact ⟨b,o,vs,c,h1,h2,ConL.with hv hl h3,h4⟩
 | .nmap,_,hc=>by grind [Con]
 | .map id,v,hc=>by simpa [Con,Env.with]using hc
 | .nfn,_,hc=>by grind [Con]
 | .fn f cap,v,hc=>by simp only [Con]at hc⊢;obtain ⟨vs,h1,h2⟩:=hc;exact ⟨vs,h1,ConL.with hv hl h2⟩
 | .nif,_,hc=>by grind [Con]
 | .iface t a,v,hc=>by simp only [Con]at hc⊢;obtain ⟨u,h1,h2⟩:=hc;exact ⟨u,h1,Con.with hv hl h2⟩
 | .agg cs,v,hc=>by simp only [Con]at hc⊢;obtain ⟨vs,h1,h2⟩:=hc;exact ⟨vs,h1,ConL.with hv hl h2⟩
 | .tup cs,v,hc=>by simp only [Con]at hc⊢;obtain ⟨vs,h1,h2⟩:=hc;exact ⟨vs,h1,ConL.with hv hl h2⟩
 | .sym i,v,hc=>by obtain ⟨a,h1,h2,h3⟩:=hc;exact ⟨a,hv _ _ h1,h2,h3.with⟩
 | .slx id sz i,v,hc=>by obtain ⟨a,h1,h2⟩:=hc;exact ⟨a,hv _ _ h1,h2⟩
 | .ptx id j sz off,v,hc=>by obtain ⟨k,n,h1,h2⟩:=hc;exact ⟨k,n,hv _ _ h1,h2⟩
theorem ConL.with {E:Env} {Y:Sy} (hv:∀i a,E.sy i=some a->Y.v i=some a) (hl:∀i l,E.syl i=some l->Y.l i=some l):∀{as:List AV} {vs:List Value},ConL E as vs->ConL (E.with Y) as vs
 |[],_,hc=>by grind [ConL]
 |a::as,vs,hc=>by simp only [ConL]at hc⊢;obtain ⟨v,r,h1,h2,h3⟩:=hc;exact ⟨v,r,h1,Con.with hv hl h2,ConL.with hv hl h3⟩
end
theorem ConE.with {E:Env} {Y:Sy} (hv:∀i a,E.sy i=some a->Y.v i=some a) (hl:∀i l,E.syl i=some l->Y.l i=some l):∀{as:List (AV×AV×Nat)} {es:List MapEntry},ConE E as es->ConE (E.with Y) as es
 |[],_,hc=>hc
 |(k,v,n)::as,es,hc=>by simp only [ConE]at hc⊢;obtain ⟨e,r,h1,h2,h3,h4,h5⟩:=hc;exact ⟨e,r,h1,h2.with hv hl,h3.with hv hl,h4,ConE.with hv hl h5⟩
theorem RowAt.withS {E:Env} {w:World} {own:Nat->Option Nat} {id:Nat} {k:ABlk} (h:RowAt E w own id k) {Y:Sy} (hv:∀i a,E.sy i=some a->Y.v i=some a) (hl:∀i l,E.syl i=some l->Y.l i=some l):RowAt (E.with Y) w own id k:=by
 refine h.imp (λ_ h=>h) (λh=>⟨h.1,h.2.sub λi hi=>hv i _ hi⟩) λb o h1 h2 h3=>⟨h2,?_⟩;cases k with
 |cells cs=>obtain ⟨arr,t,e1,e2,e3,e4⟩:=h3;refine ⟨arr,t,e1,e2,e3,λi a ha=>?_⟩;obtain ⟨v,hv',hc⟩:=e4 i a ha;exact ⟨v,hv',hc.with hv hl⟩
 |map es c=>obtain ⟨h0,es',e1,e2⟩:=h3;exact ⟨h0,es',e1,e2.with hv hl⟩
 |syl j=>obtain ⟨len,sz,cs,h0,hlen,arr,t,e1,e2,e3,e4⟩:=h3;refine ⟨len,sz,cs,hv _ _ h0,hlen,arr,t,e1,e2,e3,λi a ha=>?_⟩;obtain ⟨v,hv',ho,hc⟩:=e4 i a ha;exact ⟨v,hv',ho,hc.with⟩
 |fz cs=>obtain ⟨arr,t,fr,e1,e2,e3,e5,e4⟩:=h3;refine ⟨arr,t,fr,e1,e2,e3,e5,λi a ha=>?_⟩;obtain ⟨v,hv',hc⟩:=e4 i a ha;exact ⟨v,hv',hc.with hv hl⟩
 |mpl j=>obtain ⟨h0,n,cs,e1,es',clock,e2,e3,e4⟩:=h3;exact ⟨h0,n,cs,hv _ _ e1,es',clock,e2,e3,e4.imp λ_ _ hc=>hc.with⟩
theorem Rel.with {B:World} {pr:Nat->Prop} {E:Env} {H:AHeap} {w:World} (h:Rel B pr E H w) {Y:Sy} (hv:∀i a,E.sy i=some a->Y.v i=some a) (hl:∀i l,E.syl i=some l->Y.l i=some l):
  Rel B pr (E.with Y) H w:=by
 obtain ⟨own,g1,g2,g3⟩:=h.own;refine { own:=⟨own,λid k hk=>?_,g2,g3⟩,imm:=h.imm,ib:=h.ib,fresh:=h.fresh,resv:=h.resv,vds:=h.vds,szs:=h.szs,prot:=h.prot,size:=h.size,os:=h.os,output:=h.output };exact (g1 id k hk).withS hv hl
theorem Env.with_leF (k:Nat) {E:Env} {Y:Sy} (hv:∀i,i<64->Y.v i=E.sy i):E.leF k (E.with Y):=⟨λ_ _ _ h=>h,λ_ _ h=>h,λ_ _ _ h=>h,rfl,hv⟩
section
variable [Gl]
theorem GlOk.leF {k:Nat} {E E':Env} (h:GlOk E) (hle:E.leF k E'):GlOk E':=
 ⟨λg=>ck_ hle.imm (λi a hi hx=>(hle.sy i hi).trans hx) (Gl.nr g) (h.1 g),Gl.gtm _ _ hle.sy h.2⟩
omit [Gl]in
theorem DRel.with {P:Program} {E:Env} {Y:Sy} (hv:∀i a,E.sy i=some a->Y.v i=some a) (hl:∀i l,E.syl i=some l->Y.l i=some l):∀{D:Dfs} {ds:List Deferred},DRel P E D ds->DRel P (E.with Y) D ds
 |[],ds,hd=>hd
 |(f,args)::D,ds,hd=>by obtain ⟨vs,r,h1,h2,h3,h4⟩:=hd;exact ⟨vs,r,h1,h2.with hv hl,h3,h4.with hv hl⟩
theorem St.with {P:Program} {B:World} {pr:Nat->Prop} {N:Nat} {E:Env} {T:Tm} {H:AHeap} {D:Dfs} {a:Act} {w:World} (st:St P B pr N E T H D a w) {Y:Sy}
  (hv:∀i a,E.sy i=some a->Y.v i=some a) (hl:∀i l,E.syl i=some l->Y.l i=some l) (hlo:∀i,i<64->Y.v i=E.sy i):St P B pr N (E.with Y) T H D a w:=
 ⟨⟨st.t.size,st.t.le,λt ht=>(st.t.con t ht).with hv hl,st.t.gl.leF (Env.with_leF 0 hlo)⟩,st.r.with hv hl,st.d.with hv hl⟩
end
def Sy.put (Y:Sy) (n:Nat) (a:AV):Sy:={ Y with v:=λi=>if i=n then some a else Y.v i }
def Sy.puts (Y:Sy):Nat->List AV->Sy
 |_,[]=>Y
 |n,a::r=>(Y.put n a).puts (n+1) r
theorem Sy.put_same (Y:Sy) (n:Nat) (a:AV):(Y.put n a).v n=some a:=by simp [Sy.put]
theorem Sy.put_ne (Y:Sy) {n i:Nat} (a:AV) (h:i≠n):(Y.put n a).v i=Y.v i:=by simp [Sy.put,h]
def Fresh (Y:Sy) (n:Nat):Prop:=64<=n/\∀i,n<=i->Y.v i=none
theorem Fresh.put {Y:Sy} {n:Nat} (h:Fresh Y n) (a:AV):Fresh (Y.put n a) (n+1):=⟨by have:=h.1;omega,λi hi=>by rw [Sy.put_ne _ _ (by omega)];exact h.2 i (by omega)⟩
theorem Fresh.low {Y:Sy} {n:Nat} (h:Fresh Y n) (a:AV) (i:Nat) (hi:i<64):(Y.put n a).v i=Y.v i:=Sy.put_ne _ _ (by have:=h.1;omega)
theorem Fresh.sub_put {Y:Sy} {n:Nat} (h:Fresh Y n) (a:AV):∀i x,Y.v i=some x->(Y.put n a).v i=some x:=λi x hx=>by
 have:i≠n:=λe=>by rw [e,h.2 n (Nat.le_refl _)]at hx;cases hx
 grind [Sy.put_ne]
theorem Fresh.puts:∀{Y:Sy} {n:Nat} (l:List AV),Fresh Y n->Fresh (Y.puts n l) (n+l.length)/\(∀i x,Y.v i=some x->(Y.puts n l).v i=some x)/\(Y.puts n l).l=Y.l/\∀i,i<64->(Y.puts n l).v i=Y.v i
 |Y,n,[],h=>⟨by simpa [Sy.puts]using h,λ_ _ h=>h,rfl,λ_ _=>rfl⟩
 |Y,n,a::r,h=>by obtain ⟨h1,h2,h3,h4⟩:=Fresh.puts (Y:=Y.put n a) (n:=n+1) r (h.put a);refine ⟨?_,λi x hx=>h2 i x (h.sub_put a i x hx),h3,λi hi=>(h4 i hi).trans (h.low a i hi)⟩;have:n+(a::r).length=n+1+r.length:=(by simp;omega);rw [this];exact h1
def aj_:Nat->Nat->List AV
 |_,0=>[]
 |n,m+1=>.sym n::aj_ (Nat.succ n) m
theorem bB_:∀{Y:Sy} {n:Nat} (l:List AV),Fresh Y n->∀i a,l[i]? =some a->(Y.puts n l).v (n+i)=some a
 |Y,n,[],h,i,a,ha=>by simp at ha
 |Y,n,b::r,h,i,a,ha=>by
  show ((Y.put n b).puts (n+1) r).v (n+i)=some a;cases i with
  |zero=>simp only [List.getElem?_cons_zero]at ha;cases ha;exact (Fresh.puts (Y:=Y.put n b) (n:=n+1) r (h.put b)).2.1 n b (Sy.put_same _ _ _)
  |succ i=>simp only [List.getElem?_cons_succ]at ha;have:=bB_ (Y:=Y.put n b) (n:=n+1) r (h.put b) i a ha;rw [show n+(i+1)=n+1+i by omega];exact this
theorem bJ_ {E:Env}:∀(n:Nat) (l:List AV) (vs:List Value),okL l=true->(∀i a,l[i]? =some a->E.sy (n+i)=some a)->Con0L E l vs->ConL E (aj_ n l.length) vs
 |n,[],vs,_,_,hc=>by grind [aj_,ConL,Con0L]
 |n,a::r,vs,hk,hs,hc=>by
  rw [aY_]at hk;obtain ⟨k1,k2⟩:=aa_ hk;obtain ⟨v,q,rfl,h1,h2⟩:=hc;refine ⟨v,q,rfl,?_,bJ_ (n+1) r q k2 (λi b hb=>?_) h2⟩;exact ⟨a,by simpa using hs 0 a rfl,bj_ k1,h1⟩
  .have:=hs (i+1) b (by grind)
   grind
mutual
theorem hS_ (s:Nat->Option AV):∀{a:AV},okC a=true->den s a=a
 | .bool _,_=>rfl
 | .int _ _,_=>rfl
 | .flt _ _,_=>rfl
 | .nan _,_=>rfl
 | .str _,_=>rfl
 | .nptr,_=>rfl
 | .nsl,_=>rfl
 | .nmap,_=>rfl
 | .nfn,_=>rfl
 | .nif,_=>rfl
 | .vptr cs,h=>by simp only [okC]at h;simp only [den];rw [a1_ s h]
 | .vsl _ _ cs,h=>by simp only [okC]at h;simp only [den];rw [a1_ s h]
 | .fn _ cs,h=>by simp only [okC]at h;simp only [den];rw [a1_ s h]
 | .iface _ a,h=>by simp only [okC]at h;simp only [den];rw [ok_ s h]
 | .opq,h=>by simp [okC]at h
 | .ptr ..,h=>by simp [okC]at h
 | .sl ..,h=>by simp [okC]at h
 | .map ..,h=>by simp [okC]at h
 | .agg ..,h=>by simp [okC]at h
 | .tup ..,h=>by simp [okC]at h
 | .sym ..,h=>by simp [okC]at h
 | .slx ..,h=>by simp [okC]at h
 | .ptx ..,h=>by simp [okC]at h
theorem ok_ (s:Nat->Option AV):∀{a:AV},okI a=true->den s a=a
 | .bool _,_=>rfl
 | .int _ _,_=>rfl
 | .flt _ _,_=>rfl
 | .nan _,_=>rfl
 | .str _,_=>rfl
 | .nptr,_=>rfl
 | .nsl,_=>rfl
 | .nmap,_=>rfl
 | .nfn,_=>rfl
 | .nif,_=>rfl
 | .vptr cs,h=>by simp only [okI]at h;simp only [den];rw [a1_ s h]
 | .vsl _ _ cs,h=>by simp only [okI]at h;simp only [den];rw [a1_ s h]
 | .fn _ cs,h=>by simp only [okI]at h;simp only [den];rw [a1_ s h]
 | .iface _ a,h=>by simp only [okI]at h;simp only [den];rw [ok_ s h]
 | .agg cs,h=>by simp only [okI]at h;simp only [den];rw [a1_ s h]
 | .opq,h=>by simp [okI]at h
 | .ptr ..,h=>by simp [okI]at h
 | .sl ..,h=>by simp [okI]at h
 | .map ..,h=>by simp [okI]at h
 | .tup ..,h=>by simp [okI]at h
 | .sym ..,h=>by simp [okI]at h
 | .slx ..,h=>by simp [okI]at h
 | .ptx ..,h=>by simp [okI]at h
theorem a1_ (s:Nat->Option AV):∀{l:List AV},okL l=true->ab_ s l=l
 |[],_=>rfl
 |a::r,h=>by rw [aY_]at h;obtain ⟨h1,h2⟩:=aa_ h;simp only [ab_];rw [hS_ s h1,a1_ s h2]
end
def bl_ (sz:Nat) (b:AV):Option (Nat×List AV):=match b with
 | .agg l=>some (Nat.div (aJ_ l) sz,l)
 |b=>match aS_ b with
  |some n=>match al_ ⟨hnil,0,0⟩ b n sz with
   |some l=>some (n,l)
   |none=>none
  |none=>none
def gu_ (sz bytes:Nat) (a:AV) (n:Nat) (l:List AV):Option AV:=match decide (l.length=n*sz)with
 |false=>none
 |true=>match a with
  | .nsl=>match n with
    |0=>some .nsl
    |_=>match Nat.ble (Nat.mul n bytes) 1073741824&&Nat.ble n 1073741824&&Nat.blt 0 bytes with
     |true=>some (.vsl n sz l)
     |false=>none
  | .vsl len sz' cs=>match decide (sz'=sz/\cs.length=len*sz)with
    |false=>none
    |true=>match n with
     |0=>some (.vsl len sz' cs)
     |_=>match Nat.ble (Nat.mul (Nat.add len n) bytes) 1073741824&&Nat.ble (Nat.add len n) 1073741824&&Nat.blt 0 bytes with
      |true=>some (.vsl (Nat.add len n) sz (cs++l))
      |false=>none
  |_=>none
def my_ (d:TypeDesc) (k v:AV):List AV->Option (List AV)
 |[]=>some [k,v]
 |[_]=>none
 |q::x::r=>match hu_ d k q with
  |some true=>some (q::v::r)
  |some false=>match my_ d k v r with
   |some l=>some (q::x::l)
   |none=>none
  |none=>none
def tx_ (d:TypeDesc) (m k v:AV):Option AV:=match ge_ d k with
 |true=>match m with
  | .vsl n z cs=>match Nat.beq z 2&&Nat.beq (Nat.mul n 2) (aJ_ cs)with
    |true=>match my_ d k v cs with
     |some l=>some (.vsl (Nat.div (aJ_ l) 2) 2 l)
     |none=>none
    |false=>none
  |_=>none
 |false=>none
def np_:List AV->List (AV×AV×Nat)
 |[]=>[]
 |[_]=>[]
 |k::v::r=>(unK k,v,0)::np_ r
def rc_ (P:Program) (kt:TypeId) (k v:AV):List AV->Option (List AV)
 |[]=>some [enK k,v]
 |[_]=>none
 |q::x::r=>match hU_ P kt k (unK q)with
  |some true=>match dB_ k (unK q)with
   |true=>some (enK k::v::r)
   |false=>none
  |some false=>match rc_ P kt k v r with
   |some l=>some (q::x::l)
   |none=>none
  |none=>none
inductive XOp where
 |bin (op:BinOp) (t:TypeId) (cx cy:Bool)
 |un (op:UnOp)
 |conv (s d:TypeId)
 |idx (t:TypeId)
 |iaddr (t:TypeId)
 |faddr (s:TypeId) (f:Nat)
 |load (t:TypeId)
 |fld (s:TypeId) (f:Nat)
 |slc (t:TypeId) (lo hi:Bool)
 |len (t:TypeId)
 |nilc
 |app (sz bytes:Nat)
 |mm (mx:Bool)
 |mput (t:TypeId)
 |mlen
 |ext (f:FuncId)
 |inb
 |ldx (t:TypeId) (sz off:Nat)
 |stx (t:TypeId) (sz off:Nat)
 |tkx
 |mget (t:TypeId) (es:List (AV×AV×Nat))
 |mlk (t:TypeId)
 |mpu (t:TypeId)
 |emp
 |mkx (sz bytes:Nat) (zs:List AV)
 |mkz (sz bytes:Nat) (zs:List AV)
 |skx
 |flat (sz off es len:Nat)
 |opn (len sz:Nat)
def h0:AHeap:=⟨hnil,0,0⟩
def bI_:AV->Bool
 | .ptr _ _| .sl _ _ _ _ _| .map _| .slx _ _ _| .ptx _ _ _ _=>false
 |_=>true
def dt_ (x:AV) (r:Option AV):Option AV:=match bI_ x with
 |true=>r
 |false=>none
def rz_ (cs:List AV):AHeap:=(⟨hnil,0,0⟩:AHeap).set 0 (.cells cs)
def XOp.run (P:Program):XOp->List AV->Option AV
 | .bin op t cx cy,[x,y]=>bP_ P op t cx cy x y
 | .un op,[x]=>oy_ op x
 | .conv s d,[x]=>dt_ x (cZ_ P h0 s d x)
 | .idx t,[x,i]=>dF_ P t x i
 | .iaddr t,[x,i]=>aR_ P t x i
 | .faddr s f,[x]=>bS_ P s x f
 | .load t,[x]=>dt_ x (bg_ P h0 t x)
 | .fld s f,[x]=>ex_ P s x f
 | .slc t false false,[x]=>dt_ x (aN_ P h0 t x none none)
 | .slc t true false,[x,a]=>dt_ x (aN_ P h0 t x (some a) none)
 | .slc t false true,[x,b]=>dt_ x (aN_ P h0 t x none (some b))
 | .slc t true true,[x,a,b]=>dt_ x (aN_ P h0 t x (some a) (some b))
 | .len t,[x]=>dt_ x (bQ_ P h0 t x)
 | .nilc,[x]=>match x with
   | .vptr cs=>some (.vptr cs)
   |_=>none
 | .mm mx,[x,y]=>match x with
   | .int k a=>match y with
     | .int k' b=>match Nat.beq (kix k) (kix k')with
       |true=>some (.int k (match mx with|true=>max a b|false=>min a b))
       |false=>none
     |_=>none
   |_=>none
 | .mput t,[m,k,v]=>match P.underlying t with
   |some (.map kt _)=>match P.underlying kt with
    |some d=>tx_ d m k v
    |none=>none
   |_=>none
 | .mlen,[m]=>match m with
   | .vsl n z cs=>match Nat.beq z 2 with
     |true=>some (.int .i64 (.ofNat n))
     |false=>none
   |_=>none
 | .ext f,[x]=>match plain x with
   |some u=>match aH_ P (callFunc f #[u])with
    |some (.value v)=>some (ofV v)
    |_=>none
   |none=>none
 | .mget t es,[k]=>bn_ P ((⟨hnil,0,0⟩:AHeap).set 0 (.map es 0)) t (.map 0) k false
 | .mlk t,[m,k]=>match m with
   | .vsl n z cs=>match Nat.beq z 2 with
     |true=>bn_ P ((⟨hnil,0,0⟩:AHeap).set 0 (.map (np_ cs) 0)) t (.map 0) k false
     |false=>none
   |_=>none
 | .mpu t,[m,k,v]=>match P.underlying t with
   |some (.map kt _)=>match P.underlying kt with
    |some d=>match d8_ d&&dX_ P kt k with
     |true=>match m with
      | .vsl n z cs=>match Nat.beq z 2&&Nat.beq (Nat.mul n 2) (aJ_ cs)with
        |true=>match rc_ P kt k v cs with
         |some l=>some (.vsl (Nat.div (aJ_ l) 2) 2 l)
         |none=>none
        |false=>none
      |_=>none
     |false=>none
    |none=>none
   |_=>none
 | .inb,[x,i]=>match x with
   | .vsl ln _ _=>match i with
     | .int _ m=>match Sx.idx m ln with
       |some n=>some (.int .i64 (.ofNat n))
       |none=>none
     |_=>none
   |_=>none
 | .ldx t sz off,[x,j]=>match x with
   | .vsl _ _ cs=>match j with
     | .int _ (.ofNat n)=>bg_ P (rz_ cs) t (.ptr 0 (Nat.add (Nat.mul n sz) off))
     |_=>none
   |_=>none
 | .stx t sz off,[x,j,v]=>match x with
   | .vsl ln z cs=>match j with
     | .int _ (.ofNat n)=>match b9_ P (rz_ cs) t (.ptr 0 (Nat.add (Nat.mul n sz) off)) v with
       |some r=>match r.2.get 0 with
        |some (.cells cs')=>some (.vsl ln z cs')
        |_=>none
       |none=>none
     |_=>none
   |_=>none
 | .tkx,[x,r,i]=>match i with
   | .int _ (.ofNat m)=>match x with
     | .vsl ln z0 _=>match r with
       | .vsl n z cs=>match Nat.beq z z0&&(Nat.ble m ln&&Nat.ble m n)with
         |true=>match aZ_ (Nat.mul m z) cs with
          |some cs'=>some (.vsl m z cs')
          |none=>none
         |false=>none
       |_=>none
     | .nsl=>match r with
       | .nsl=>match m with
         |0=>some .nsl
         |_=>none
       |_=>none
     |_=>none
   |_=>none
 | .flat sz off es ln,[j,h]=>match j with
   | .int _ (.ofNat n)=>match h with
     | .int _ i=>match Sx.idx i ln with
       |some m=>some (.int .i64 (.ofNat (Nat.add (Nat.add (Nat.mul n sz) off) (Nat.mul m es))))
       |none=>none
     |_=>none
   |_=>none
 | .opn ln sz,[x]=>match x with
   | .vsl n z cs=>match Nat.beq n ln&&(Nat.beq z sz&&Nat.beq (aJ_ cs) (Nat.mul ln sz))with
     |true=>some (.agg cs)
     |false=>none
   |_=>none
 | .mkx sz bytes zs,[a]=>match a with
   | .int _ (.ofNat n)=>match Nat.ble (Nat.mul bytes n) 16777216&&Nat.ble n 16777216 with
     |true=>some (.vsl n sz (aw_ zs n))
     |false=>none
   |_=>none
 | .mkz sz bytes zs,[a]=>match a with
   | .int _ (.ofNat n)=>match Nat.blt 0 sz&&(Nat.blt 0 bytes&&(Nat.blt 0 n&&(Nat.ble (Nat.mul n bytes) 1073741824&&Nat.ble n 1073741824)))with
     |true=>some (.vsl n sz (aw_ zs n))
     |false=>none
   |_=>none
 | .skx,[x,a]=>match x with
   | .vsl n z cs=>match a with
     | .int _ (.ofNat m)=>match Nat.ble m n with
       |true=>some (.vsl (Nat.sub n m) z (ai_ (Nat.mul m z) cs))
       |false=>none
     |_=>none
   |_=>none
 | .emp,[a]=>match a with
   | .nsl=>some (.bool true)
   | .vsl n _ _=>some (.bool (Nat.beq n 0))
   |_=>none
 | .app sz bytes,[a,b]=>match bl_ sz b with
   |some (n,l)=>gu_ sz bytes a n l
   |none=>none
 |_,_=>none
theorem nt_ {P:Program} {H:AHeap} {t:TypeId} {x:AV} (h:bI_ x=true):bg_ P H t x=bg_ P h0 t x:=by
 have hc:∀n,aT_ H x n=aT_ h0 x n:=λn=>by cases x<;>first|rfl|(simp [bI_]at h)
 grind [bg_]
theorem pC_ {P:Program} {H:AHeap} {t:TypeId} {x:AV} (h:bI_ x=true):bQ_ P H t x=bQ_ P h0 t x:=by
 unfold bQ_
 grind [bI_]
theorem gn_ {H:AHeap} {x:AV} (h:bI_ x=true) (n sz:Nat):al_ H x n sz=al_ h0 x n sz:=by cases x<;>first|rfl|(simp [bI_]at h)
theorem nq_ {P:Program} {H:AHeap} {s d:TypeId} {x:AV} (h:bI_ x=true):cZ_ P H s d x=cZ_ P h0 s d x:=by cases x<;>first|rfl|(simp [bI_]at h)
theorem dk_ {P:Program} {H:AHeap} {t:TypeId} {x:AV} (h:bI_ x=true) (lo hi:Option AV):aN_ P H t x lo hi=aN_ P h0 t x lo hi:=by cases x<;>first|rfl|(simp [bI_]at h)
theorem bD_ {x:AV} {r:Option AV} {a:AV} (h:dt_ x r=some a):bI_ x=true/\r=some a:=by
 grind [dt_]
inductive Tree where
 |bad
 |done (v:AV)
 |ite (i:Nat) (a b:Tree)
 |lt (op:XOp) (args:List AV) (n:Nat) (m:Option Nat) (t:Tree)
structure XS where
 T:Tm
 H:AHeap
 n:Nat
def sy_ {α β:Type} (f:α->β) (q:Q8 α):Q8 β:=Q8.casesOn q λa b c d e g h i=>⟨f a,f b,f c,f d,f e,f g,f h,f i⟩
def be_ (f:AV->AV) (T:Tm):Tm:=sy_ (sy_ (sy_ f)) T
theorem qv_ {α β:Type} (f:α->β) (q:Q8 α):∀i:Nat,Q8.at8 i (sy_ f q)=f (Q8.at8 i q)
 |0=>by rfl
 |1=>by rfl
 |2=>by rfl
 |3=>by rfl
 |4=>by rfl
 |5=>by rfl
 |6=>by rfl
 |n+7=>by rfl
theorem aF_ (f:AV->AV) (T:Tm) (t:Nat):tget (be_ f T) t=f (tget T t):=by
 grind [fk_,be_,qv_]
def g9_ (i:Nat) (b:Bool) (a:AV):AV:=match a with
 | .sym j=>match Nat.beq j i with
   |true=>.bool b
   |false=>.sym j
 |a=>a
def XS.know (S:XS) (i:Nat) (b:Bool):XS:=⟨be_ (g9_ i b) S.T,S.H,S.n⟩
variable [Gl]
def c3_ (T:Tm) (o:Oper):Option (XOp×List AV):=match o.op with
 | .binOp op t x y _=>some (.bin op t (bv_ x) (bv_ y),[look T x,look T y])
 | .unOp op _ x=>some (.un op,[look T x])
 | .convert s d x=>some (.conv s d,[look T x])
 | .index t x i=>some (.idx t,[look T x,look T i])
 | .indexAddr t x i=>some (.iaddr t,[look T x,look T i])
 | .fieldAddr s x f=>some (.faddr s f,[look T x])
 | .load t a=>some (.load t,[look T a])
 | .field s x f=>some (.fld s f,[look T x])
 | .slice t x lo hi mx=>match mx with
   |none=>match lo with
    |none=>match hi with
     |none=>some (.slc t false false,[look T x])
     |some b=>some (.slc t false true,[look T x,look T b])
    |some a=>match hi with
     |none=>some (.slc t true false,[look T x,look T a])
     |some b=>some (.slc t true true,[look T x,look T a,look T b])
   |some _=>none
 | .nilCheck x=>some (.nilc,[look T x])
 | .call c=>match c.callee with
   | .builtin b=>match b with
     | .len=>match c.args.toList,c.argTypes.toList with
       |[x],[t]=>some (.len t,[look T x])
       |_,_=>none
     | .max=>match c.args.toList with
       |[x,y]=>some (.mm true,[look T x,look T y])
       |_=>none
     | .min=>match c.args.toList with
       |[x,y]=>some (.mm false,[look T x,look T y])
       |_=>none
     |_=>none
   |_=>none
 |_=>none
omit [Gl]in
def tH_ (P:Program) (t:TypeId):Option Nat:=match P.underlying t with
 |some d=>match lE_ d with
  |true=>match P.info? t with
   |some i=>some i.size
   |none=>none
  |false=>none
 |none=>none
omit [Gl]in
def mo_ (P:Program) (op:XOp):Option Nat:=match op with
 | .load t=>tH_ P t
 | .ldx t _ _=>tH_ P t
 | .fld s f=>match P.underlying s with
   |some (.struct fields)=>match fields[f]? with
    |some fl=>tH_ P fl.type
    |none=>none
   |_=>none
 |_=>none
def rM_ (a:AV):Option Nat:=match a with
 | .sym i=>some i
 |_=>none
def mg_ (all:List Oper) (o:Oper) (T:Tm):Option Nat:=match o.guard with
 |none=>none
 |some (j,_)=>match iN_ all j with
  |some oj=>match oj.dst with
   |some d=>rM_ (tget T d)
   |none=>none
  |none=>none
def jh_ (T:Tm) (x:Operand):Option Nat:=match x with
 | .tmp t=>match Nat.blt t 512 with
   |true=>rM_ (tget T t)
   |false=>none
 |_=>none
def li_ (o:Oper) (T:Tm):Option (Nat×Operand×Operand):=match o.op with
 | .pick c a b=>match jh_ T c with
   |some i=>some (i,a,b)
   |none=>none
 |_=>none
structure Fact where
 o:BinOp
 l:Bool
 i:Nat
 c:AV
 v:AV
def Fact.has (f:Fact) (o:BinOp) (x y:AV):Bool:=decide (o=f.o)&&(match f.l with
 |true=>bM_ x (.sym f.i)&&bM_ y f.c
 |false=>bM_ y (.sym f.i)&&bM_ x f.c)
def l8_:List Fact->XOp->List AV->Option AV
 |[],_,_=>none
 |f::r,op,args=>match op,args with
  | .bin o _ _ _,[x,y]=>match f.has o x y with
    |true=>some f.v
    |false=>l8_ r op args
  |_,_=>none
def Fact.ok (P:Program) (f:Fact) (a:AV):Prop:=∀t cx cy,(match f.l with
 |true=>bP_ P f.o t cx cy a f.c
 |false=>bP_ P f.o t cx cy f.c a)=some f.v
structure XF where
 f:FuncId
 args:List AV
 v:AV
structure FcT where
 b:List Fact
 x:List XF
def oA_:List XF->FuncId->List AV->Option AV
 |[],_,_=>none
 |q::r,f,args=>match Nat.beq f q.f&&dA_ args q.args with
  |true=>some q.v
  |false=>oA_ r f args
def qz_ (x:List XF) (T:Tm) (o:Oper):Option AV:=match o.op with
 | .call c=>match c.callee with
   | .value f=>match f with
     | .func id=>oA_ x id (jE_ (look T) c.args.toList)
     |_=>none
   |_=>none
 |_=>none
def XOk (P:Program) (Y:Sy) (q:XF):Prop:=∀(B:World) (pr:Nat->Prop) (E:Env) (H:AHeap) (w:World) (vs:List Value),(∀i,i<64->E.sy i=Y.v i)->GlOk E->Rel B pr E H w->ConL E q.args vs->
 ∃u,(callFunc q.f ⟨vs⟩).run P w=.ok (.value u) w/\Con E q.v u
def KnownF (P:Program) (fc:FcT) (Y:Sy):Prop:=(∀f∈fc.b,okC f.v=true/\okC f.c=true/\∃a,Y.v f.i=some a/\f.ok P a)/\∀q∈fc.x,XOk P Y q
end Go.Sx
