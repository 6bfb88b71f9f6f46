/-
  A call of cp_ values, run with symbols.
-/
import Derived.Test.YtjconanknjgpnaaGreatSyD
import Derived.Laws.Externs
import Derived.Lib.IndexEntry
set_option linter.unusedVariables false
set_option linter.unusedSimpArgs false
namespace Go.Sx
def mR_:List AV->Bool
 |[]=>true
 |a::r=>match okI a with
  |true=>mR_ r
  |false=>false
theorem kw_ {E:Env}:∀{as:List AV} {vs:List Value},mR_ as=true->ConL E as vs->Con0L E as vs
 |[],_,_,hc=>by simpa [Con0L,ConL]using hc
 |a::as,vs,h,hc=>by
  simp only [ConL]at hc
  simp only [Con0L]
  obtain ⟨v,r,e,c1,c2⟩:=hc
  simp only [mR_]at h
  cases ha:okI a with
  |true=>rw [ha]at h;exact ⟨v,r,e,i2_ ha c1,kw_ h c2⟩
  |false=>rw [ha]at h;cases h
theorem cZ_:∀{l:List AV},okL l=true->∀a∈l,okC a=true
 |[],_,a,h=>by cases h
 |b::r,h,a,hm=>by
  rw [aY_]at h
  obtain ⟨h1,h2⟩:=aa_ h
  cases hm with
  |head=>exact h1
  |tail _ hm=>exact cZ_ h2 a hm
theorem ja_:∀{Y:Sy} {n:Nat} (l:List AV) (i:Nat) (a:AV),(Y.puts n l).v i=some a->Y.v i=some a\/a∈l
 |Y,n,[],i,a,h=>.inl h
 |Y,n,b::r,i,a,h=>by
  rcases ja_ (Y:=Y.put n b) (n:=n+1) r i a h with h|h
  .by_cases e:i=n
   .subst e;rw [Sy.put_same]at h;cases h;exact .inr (List.mem_cons_self ..)
   .rw [Sy.put_ne _ _ e]at h;exact .inl h
  .exact .inr (List.mem_cons_of_mem _ h)
theorem hM_:∀n m:Nat,ad_ (ai_ n m)=true
 |_,0=>rfl
 |n,m+1=>by simp only [ai_,ad_,ae_];exact hM_ (n+1) m
theorem sQ_ {a:AV} (h:okC a=true):okI a=true:=by
 cases a<;>first|(exact h)|(simp [okC]at h)
variable [Gl]
theorem pure_sym {P:Program} {f:FuncId} {args args' ls:List AV} {v:AV} (hok:mR_ args=true) (hv:aT_ v=true) (hso:ad_ args'=true) (hls:okL ls=true)
  (hden:∀Y,Fresh Y 64->ab_ (Y.puts 64 ls).v args'=args) (h:∀Y,Fresh Y 64->Gl.gt Y.v->SemCallF P 0 (Y.puts 64 ls) f args' H0 (hT_ (· =v))):jA_ P f args v:=by
 intro H B pr E w vs hg hr hc
 let Yg:Sy:=⟨λi=>if i<64 then E.sy i else none,λ_=>none⟩
 have hfr:Fresh Yg 64:=⟨Nat.le_refl _,λi hi=>if_neg (by omega)⟩
 have hlow:∀i,i<64->Yg.v i=E.sy i:=λi hi=>if_pos hi
 have hgt:Gl.gt Yg.v:=Gl.gtm _ _ hlow hg.2
 obtain ⟨p1,p2,p3,p4⟩:=hfr.puts ls
 let E1:Env:=⟨λ_=>none,E.sz,E.imm,λ_=>False,E.imm,(Yg.puts 64 ls).v,(Yg.puts 64 ls).l,λ_=>False⟩
 have hlow1:∀i,i<64->E1.sy i=E.sy i:=λi hi=>(p4 i hi).trans (hlow i hi)
 have hg1:GlOk E1:=⟨λg=>cs_ (E:=E) (E':=E1) (λ_ _ _ h=>h) (λi a hi hx=>(hlow1 i hi).trans hx) (Gl.nr g) (hg.1 g),Gl.gtm _ _ hlow1 hg.2⟩
 have hrel:Rel w (λb=>b<w.heap.size) E1 H0 w:={
  own:=⟨λ_=>none,λid k hk=>(li_ hk).elim,λ_ _=>rfl,λ_ _ _ _=>rfl⟩
  imm:=hr.imm
  ib:=λ_ _ _ _ h=>h
  fresh:=λ_ _ _=>rfl
  resv:=λ_ h=>h.elim
  vds:=λ_ h=>h.elim
  szs:=hr.szs
  prot:=λb h=>⟨h,rfl⟩
  size:=Nat.le_refl _
  os:=rfl
  output:=rfl }
 have hone:∀i a,E1.sy i=some a->a.one=true:=λi a hx=>by
  rcases ja_ ls i a hx with hx|hx
  .by_cases hi:i<64
   .exact Gl.gto _ hgt i a hi hx
   .have:Yg.v i=none:=if_neg hi
    rw [this]at hx;cases hx
  .exact bq_ (cZ_ hls a hx)
 have hcon:ConL E1 args' vs:=by
  refine de_ hone hso ?_
  have:ab_ E1.sy args'=args:=hden Yg hfr
  rw [this]
  exact bE_ (E:=E) (E':=E1) (λ_ _ _ h=>h) (kw_ hok hc)
 refine Calls.mono (h Yg hfr hgt w (λb=>b<w.heap.size) E1 w vs ⟨rfl,rfl,λ_ h=>h⟩ hg1 hrel hcon) λe w' he=>?_
 obtain ⟨Y',r,⟨a,H1,v',m,rfl,hs,hso',hQ⟩,E',hle,hy',u,rfl,h1,h2⟩:=he
 obtain ⟨E2,f1,f2,f3,f4,_,f5,f6⟩:=h2.freeze
 have hcon2:=ne_ h2 f1 f6 m _ _ _ hs h1
 have hv0:Con0 E2 v u:=by
  have:=av_ hso' hcon2
  rw [f1.2.2.2.1,hy'.v,hQ]at this
  exact this
 obtain ⟨own,g1,g2,g3⟩:=hr.own
 have hsz:∀b n,E.sz b=some n->E2.sz b=some n:=λb n hx=>f1.2.1 b n (hle.sz b n hx)
 have him:∀b o v,E.imm b o=some v->E2.imm b o=some v:=λb o v hx=>f1.2.2.1 b o v (hle.imm b o v hx)
 have hold:∀b o v,b<w.heap.size->E2.imm b o=some v->E.imm b o=some v:=λb o v hb hx=>by
  have:=f5.ib b o v hb hx
  rw [f4,hle.bim]at this
  exact this
 refine ⟨⟨E.φ,E2.sz,E2.imm,E.res,E.bim,E.sy,E.syl,E.vd⟩,⟨⟨λ_ _ h=>h,hsz,him,rfl,rfl⟩,rfl,rfl,rfl⟩,u,rfl,(ce_ (E:=E2) (E':=⟨E.φ,E2.sz,E2.imm,E.res,E.bim,E.sy,E.syl,E.vd⟩) (λ_ _ _ h=>h) hv0).con,?_⟩
 have hsub:E.sub ⟨E.φ,E2.sz,E2.imm,E.res,E.bim,E.sy,E.syl,E.vd⟩:=⟨λ_ _ h=>h,hsz,him,rfl,rfl⟩
 refine { own:=⟨λb=>if b<w.heap.size then own b else none,λid k hk=>?_,λb hb=>?_,λb o v hx=>?_⟩,imm:=f5.imm,ib:=λb o v hb hx=>?_,fresh:=hr.fresh,resv:=hr.resv,vds:=hr.vds,szs:=f5.szs,prot:=λb hb=>?_,
          size:=Nat.le_trans hr.size h2.size,os:=h2.os.trans hr.os,output:=h2.output.trans hr.output }
 .exact (g1 id k hk).imp (λ_ h=>h) (λh=>h) λb o e1 e2 e3=>⟨(if_pos e3.lt).trans e2,e3.sub hsub (h2.prot b e3.lt).2⟩
 .show (if b<w.heap.size then own b else none)=none
  split
  .exact g2 b hb
  .rfl
 .show (if b<w.heap.size then own b else none)=none
  split
  .rename_i hlt
   exact g3 b o v (hold b o v hlt hx)
  .rfl
 .have hlt:=Nat.lt_of_lt_of_le (hr.prot b hb).1 hr.size
  exact hr.ib b o v hb (hold b o v hlt hx)
 .obtain ⟨e1,e2⟩:=hr.prot b hb
  exact ⟨e1,(h2.prot b (Nat.lt_of_lt_of_le e1 hr.size)).2.trans e2⟩
end Go.Sx
