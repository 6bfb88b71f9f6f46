/-
  A call of plain values, run with symbols.
-/
import Derived.Test.YteegdnoekakdbaaGreatDoorSyB
import Derived.Laws.Externs
import Derived.Lib.IndexEntry
import Derived.ChangeReads
import Derived.ChangeArms
import Derived.ChangeShapes
import Derived.WideShapes
set_option linter.unusedVariables false
set_option linter.unusedSimpArgs false
namespace Go.Sx
def mm_:List AV->Bool
 |[]=>true
 |a::r=>match okI a with
  |true=>mm_ r
  |false=>false
theorem ka_ {E:Env}:∀{as:List AV} {vs:List Value},mm_ as=true->ConL E as vs->Con0L E as vs
 |[],_,_,hc=>by grind [Con0L,ConL]
 |a::as,vs,h,hc=>by
  simp only [ConL]at hc;simp only [Con0L];obtain ⟨v,r,e,c1,c2⟩:=hc;simp only [mm_]at h;cases ha:okI a with
  |true=>rw [ha]at h;exact ⟨v,r,e,iH_ ha c1,ka_ h c2⟩
  |false=>rw [ha]at h;cases h
theorem cO_:∀{l:List AV},okL l=true->∀a∈l,okC a=true
 |[],_,a,h=>by cases h
 |b::r,h,a,hm=>by
  rw [bC_]at h;obtain ⟨h1,h2⟩:=aa_ h;cases hm with
  |head=>exact h1
  |tail _ hm=>exact cO_ h2 a hm
theorem iR_:∀{Y:Sy} {n:Nat} (l:List AV) (i:Nat) (a:AV),(Y.puts n l).v i=some a->Y.v i=some a\/a∈l
 |Y,n,[],i,a,h=>.inl h
 |Y,n,b::r,i,a,h=>by rcases iR_ (Y:=Y.put n b) (n:=n+1) r i a h with h|h;by_cases e:i=n;subst e;rw [Sy.put_same]at h;cases h;exact .inr (List.mem_cons_self ..);rw [Sy.put_ne _ _ e]at h;exact .inl h;exact .inr (List.mem_cons_of_mem _ h)
theorem qq_ {s:Nat->Option AV}:∀(n:Nat) (ls:List AV),(∀i a,ls[i]? =some a->s (n+i)=some a)->ab_ s (ai_ n ls.length)=ls
 |n,[],_=>rfl
 |n,a::r,h=>by have h0:s n=some a:=(by simpa using h 0 a rfl);simp only [List.length_cons,ai_,ab_,den,h0];rw [qq_ (n+1) r λi b hb=>by have:=h (i+1) b (by simpa using hb);rw [show n+1+i=n+(i+1) by omega];exact this]
variable [Gl]
theorem pure_sym {P:Program} {f:FuncId} {args args' ls:List AV} {v:AV} (hok:mm_ args=true) (hv:bL_ v=true) (hso:ad_ args'=true) (hls:okL ls=true)
  (hden:∀Y,Fresh Y 64->ab_ (Y.puts 64 ls).v args'=args) (h:∀Y,Fresh Y 64->Gl.gt Y.v->SemCallF P 0 (Y.puts 64 ls) f args' H0 (eP_ (· =v))):kv_ P f args v:=by
 intro H B pr E w vs hg hr hc
 let Yg:Sy:=⟨λi=>if i<64 then E.sy i else none,λ_=>none⟩
 have hfr:Fresh Yg 64:=⟨Nat.le_refl _,λi hi=>if_neg (by omega)⟩;have hlow:∀i,i<64->Yg.v i=E.sy i:=λi hi=>if_pos hi;have hgt:Gl.gt Yg.v:=Gl.gtm _ _ hlow hg.2;obtain ⟨p1,p2,p3,p4⟩:=hfr.puts ls
 let E1:Env:=⟨λ_=>none,E.sz,E.imm,λ_=>False,E.imm,(Yg.puts 64 ls).v,(Yg.puts 64 ls).l,λ_=>False⟩
 have hlow1:∀i,i<64->E1.sy i=E.sy i:=λi hi=>(p4 i hi).trans (hlow i hi);have hg1:GlOk E1:=⟨λg=>ck_ (E:=E) (E':=E1) (λ_ _ _ h=>h) (λi a hi hx=>(hlow1 i hi).trans hx) (Gl.nr g) (hg.1 g),Gl.gtm _ _ hlow1 hg.2⟩
 have hrel:Rel w (λb=>b<w.heap.size) E1 H0 w:={
  own:=⟨λ_=>none,λid k hk=>(kX_ hk).elim,λ_ _=>rfl,λ_ _ _ _=>rfl⟩
  imm:=hr.imm
  ib:=λ_ _ _ _ h=>h
  fresh:=λ_ _ _=>rfl
  resv:=λ_ h=>h.elim
  vds:=λ_ h=>h.elim
  szs:=hr.szs
  prot:=λb h=>⟨h,rfl⟩
  size:=Nat.le_refl _
  os:=rfl
  output:=rfl }
 have hone:∀i a,E1.sy i=some a->a.one=true:=λi a hx=>by
  rcases iR_ ls i a hx with hx|hx
  .by_cases hi:i<64
   .grind [Gl.gto]
   grind
  grind [be_,cO_]
 have hcon:ConL E1 args' vs:=by refine cZ_ hone hso ?_;have:ab_ E1.sy args'=args:=hden Yg hfr;rw [this];exact bl_ (E:=E) (E':=E1) (λ_ _ _ h=>h) (ka_ hok hc)
 refine Calls.mono (h Yg hfr hgt w (λb=>b<w.heap.size) E1 w vs ⟨rfl,rfl,λ_ h=>h⟩ hg1 hrel hcon) λe w' he=>?_;obtain ⟨Y',r,⟨a,H1,v',m,rfl,hs,hso',hQ⟩,E',hle,hy',u,rfl,h1,h2⟩:=he;obtain ⟨E2,f1,f2,f3,f4,_,f5,f6⟩:=h2.freeze;have hcon2:=mH_ h2 f1 f6 m _ _ _ hs h1;have hv0:Con0 E2 v u:=by have:=ao_ hso' hcon2;rw [f1.2.2.2.1,hy'.v,hQ]at this;exact this
 obtain ⟨own,g1,g2,g3⟩:=hr.own;have hsz:∀b n,E.sz b=some n->E2.sz b=some n:=λb n hx=>f1.2.1 b n (hle.sz b n hx);have him:∀b o v,E.imm b o=some v->E2.imm b o=some v:=λb o v hx=>f1.2.2.1 b o v (hle.imm b o v hx);have hold:∀b o v,b<w.heap.size->E2.imm b o=some v->E.imm b o=some v:=λb o v hb hx=>by have:=f5.ib b o v hb hx;rw [f4,hle.bim]at this;exact this
 refine ⟨⟨E.φ,E2.sz,E2.imm,E.res,E.bim,E.sy,E.syl,E.vd⟩,⟨⟨λ_ _ h=>h,hsz,him,rfl,rfl⟩,rfl,rfl,rfl⟩,u,rfl,(b5_ (E:=E2) (E':=⟨E.φ,E2.sz,E2.imm,E.res,E.bim,E.sy,E.syl,E.vd⟩) (λ_ _ _ h=>h) hv0).con,?_⟩;have hsub:E.sub ⟨E.φ,E2.sz,E2.imm,E.res,E.bim,E.sy,E.syl,E.vd⟩:=⟨λ_ _ h=>h,hsz,him,rfl,rfl⟩
 refine { own:=⟨λb=>if b<w.heap.size then own b else none,λid k hk=>?_,λb hb=>?_,λb o v hx=>?_⟩,imm:=f5.imm,ib:=λb o v hb hx=>?_,fresh:=hr.fresh,resv:=hr.resv,vds:=hr.vds,szs:=f5.szs,prot:=λb hb=>?_,
          size:=Nat.le_trans hr.size h2.size,os:=h2.os.trans hr.os,output:=h2.output.trans hr.output }
 exact (g1 id k hk).imp (λ_ h=>h) (λh=>h) λb o e1 e2 e3=>⟨(if_pos e3.lt).trans e2,e3.sub hsub (h2.prot b e3.lt).2⟩
 .grind
 .grind
 have hlt:=Nat.lt_of_lt_of_le (hr.prot b hb).1 hr.size;exact hr.ib b o v hb (hold b o v hlt hx);obtain ⟨e1,e2⟩:=hr.prot b hb;exact ⟨e1,(h2.prot b (Nat.lt_of_lt_of_le e1 hr.size)).2.trans e2⟩
def oa_ (v:AV):Tree->Bool
 | .done a=>match okI a with
   |true=>bM_ a v
   |false=>false
 |_=>false
omit [Gl]in
theorem lD_ {P:Program} {v:AV} {t:Tree} {Y:Sy} (h:oa_ v t=true):a3_ P (· =v) Y t:=by
 unfold oa_ at h;split at h
 .split at h<;>grind [aD_,hC_,a3_]
 cases h
def glI (g:Nat):Nat->AV:=λi=>match Nat.beq i g with
 |true=>.vptr [.sym 0]
 |false=>.opq
omit [Gl]in
theorem nrI (g i:Nat):bL_ (glI g i)=true:=by unfold glI;split<;>simp [bL_,cm_,Nat.blt]
def gtI (s:Nat->Option AV):Prop:=∃m:Int,s 0=some (.int .i64 m)/\∀i,i<64->i≠0->s i=none
abbrev RD:=FuncId->List AV->AHeap->Option AV
def rd0:RD:=λ_ _ _=>none
def ovR (l:List (FuncId×List AV×AV)) (rd:RD) (f:FuncId) (args:List AV) (H:AHeap):Option AV:=match nF_ l f args with
 |some v=>some v
 |none=>rd f args H
abbrev ev_ (g:Nat) (l:List (FuncId×List AV×AV)) (rd:RD:=rd0):Gl:=⟨glI g,ovR l rd,nrI g,gtI,
 λs s' h hs=>by obtain ⟨m,h1,h2⟩:=hs;exact ⟨m,(h 0 (by omega)).trans h1,λi hi hn=>(h i hi).trans (h2 i hi hn)⟩,
 λs hs i a hi ha=>by
  obtain ⟨m,h1,h2⟩:=hs;by_cases e:i=0;subst e;rw [h1]at ha;cases ha;rfl
  grind⟩
def kR_ (c:Int) (b:Bool):List Fact:=[⟨.leq,false,0,.int .i64 c,.bool b⟩,⟨.gtr,false,0,.int .i64 c,.bool (not b)⟩]
def tb_ (P:Program) (n:Nat) (c:Int) (fx:FuncId) (f:FuncId) (args:List AV) (v:AV):Bool:=match mm_ args&&(bL_ v&&ad_ args)with
 |true=>oa_ v (xFn P n ⟨kR_ c true,[⟨fx,args,v⟩]⟩ f args 64)&&oa_ v (xFn P n ⟨kR_ c false,[]⟩ f args 64)
 |false=>false
omit [Gl]in
theorem pr_ {P:Program} {c m:Int} {Y:Sy} (h:Y.v 0=some (.int .i64 m)):∀f∈kR_ c (decide (c<=m)),okC f.v=true/\okC f.c=true/\∃a,Y.v f.i=some a/\f.ok P a:=by
 intro f hf;have hlt:ltI m c=decide (m<c):=qT_ m c;have hn:(!decide (m<c))=decide (c<=m):=j8_ m c;simp only [kR_,List.mem_cons,List.not_mem_nil,or_false]at hf;rcases hf with rfl|rfl;refine ⟨rfl,rfl,_,h,λt cx cy=>?_⟩;show some (AV.bool (not (ltI m c)))=some (.bool (decide (c<=m)));rw [hlt,hn]
 .refine ⟨rfl,rfl,_,h,λt cx cy=>?_⟩;show some (AV.bool (ltI m c))=some (.bool (not (decide (c<=m))))
  grind
def uk_ (args:List AV) (c:Int) (v:AV):Bool:=match args with
 |[.str a,.str b]=>match v with
  | .int .i64 r=>Nat.ble 2 b.length&&(decide ((b.length:Int)<=c)&&(Nat.blt a.length 4294967281&&decide (Lib.index a b=r)))
  |_=>false
 |_=>false
omit [Gl]in
theorem lA_ (s:Nat->Option AV):∀{l:List AV},mm_ l=true->ab_ s l=l
 |[],_=>rfl
 |a::r,h=>by
  simp only [mm_]at h;cases ha:okI a with
  |true=>rw [ha]at h;simp only [ab_];rw [hC_ s ha,lA_ s h]
  |false=>rw [ha]at h;cases h
omit [Gl]in
theorem ut_ {P:Program} (hm:P.follows .mixedOrders=true) {g:Nat} {l:List (FuncId×List AV×AV)} {rd:RD} (ho: @ku_ (ev_ g l rd) P) {n:Nat} {c:Int} {fx f:FuncId} {fn:Func} {args:List AV} {v:AV}
  (hfx:P.funcs[fx]? =some fn) (hnm:(fn.name== "runtime.NumGoroutine")=false) (hb:fn.body.isNone=true) (hn:Extern.findNext fn=none) (he:Extern.find fn=some Extern.BytealgIndex.index)
  (hgv:P.globals.findIdx? (·.name==(entryReads.headD ("","")).2)=some g) (hix:uk_ args c v=true)
  (h: @tb_ (ev_ g l rd) P n c fx f args v=true): @kv_ (ev_ g l rd) P f args v:=by
 unfold tb_ at h;split at h
 .rename_i hna;obtain ⟨h1,h2⟩:=aa_ hna;obtain ⟨h2,h3⟩:=aa_ h2;obtain ⟨q1,q2⟩:=aa_ h;refine @pure_sym (ev_ g l rd) P f args args [] v h1 h2 h3 rfl (λY _=>lA_ _ h1) λY hf hg=>?_;obtain ⟨m,hg1,hg2⟩:=hg;have hk:=pr_ (P:=P) (c:=c) (m:=m) (Y:=Y) hg1;by_cases hle:c<=m
  .have hb':decide (c<=m)=true:=decide_eq_true hle;rw [hb']at hk;have hx:∀q∈[(⟨fx,args,v⟩:XF)],@XOk (ev_ g l rd) P Y q:=by
    intro q hq;simp only [List.mem_cons,List.not_mem_nil,or_false]at hq;subst hq;intro B pr E H w vs hy hgl hr hcon;unfold uk_ at hix;split at hix
    .rename_i a b;have hv:∃r,v=.int .i64 r/\(Nat.ble 2 b.length&&(decide ((b.length:Int)<=c)&&(Nat.blt a.length 4294967281&&decide (Lib.index a b=r))))=true:=by
      grind
     .obtain ⟨r,rfl,hix⟩:=hv;obtain ⟨i1,hix⟩:=aa_ hix;obtain ⟨i2,hix⟩:=aa_ hix;obtain ⟨i3,i4⟩:=aa_ hix;have i1:2<=b.length:=Nat.le_of_ble_eq_true i1;have i2:(b.length:Int)<=c:=of_decide_eq_true i2;have i3:(ByteArray.mk ⟨a⟩).size<4294967281:=(by show a.length<4294967281;simp_all);obtain ⟨v1,r1,rfl,rfl,v2,r2,rfl,rfl,rfl⟩:=hcon;have hcell:w.cell? ⟨g,0,none⟩=some (.int .i64 m):=by
       have hgg:=hgl.1 g;have: @Gl.gl (ev_ g l rd) g=.vptr [.sym 0]:=(by grind [glI,Nat.beq_refl]);rw [this]at hgg;obtain ⟨b0,o0,vs0,e0,⟨u0,r0,rfl,⟨a0,e1,e2,e3⟩,rfl⟩,himm⟩:=hgg;rw [hy 0 (by omega)]at e1;have:Y.v 0=some a0:=e1;rw [hg1]at this;cases this;simp only [Con0]at e3;have:=hr.imm _ _ _ (himm 0 _ rfl)
       grind
      refine ⟨.int .i64 r,?_,by simp only [Con]⟩;have hs2:2<=(ByteArray.mk ⟨b⟩).size:=i1;have hs3:(((ByteArray.mk ⟨b⟩).size:Nat):Int)<=m:=Int.le_trans i2 hle;rw [run_callFunc_extern hfx hnm hb hn he,Lib.run_indexString _ _ w g m hgv hcell hs2 hs3 i3];simp_all
    cases hix
   exact @rT_ (ev_ g l rd) P (· =v) n _ hm (@dt_ (ev_ g l rd) P hm ho n) f args 64 Y ⟨hf,hk,hx⟩ (lD_ q1)
  have hb':decide (c<=m)=false:=decide_eq_false hle;rw [hb']at hk;exact @rT_ (ev_ g l rd) P (· =v) n _ hm (@dt_ (ev_ g l rd) P hm ho n) f args 64 Y ⟨hf,hk,λ_ h=>by cases h⟩ (lD_ q2)
 cases h
omit [Gl]in
theorem ux_ {g:Nat} {P:Program} {l l':List (FuncId×List AV×AV)} {rd rd':RD} {F:FuncId} {A:List AV} {V:AV} (ho: @ku_ (ev_ g l rd) P) (hp: @kv_ (ev_ g l' rd') P F A V): @ku_ (ev_ g ((F,A,V)::l) rd) P:=by
 intro f args v H h;have h:ovR ((F,A,V)::l) rd f args H=some v:=h;have hr:nF_ l f args=nF_ l f args->∀x,(match nF_ l f args with
  |some v=>some v
  |none=>rd f args H)=some x-> @Gl.ov (ev_ g l rd) f args H=some x:=λ_ x hx=>hx
 unfold ovR nF_ at h;cases hf:Nat.beq f F with
 |true=>
  rw [hf]at h;cases ha:dl_ args A with
  |true=>rw [ha]at h;cases h;have:=Nat.eq_of_beq_eq_true hf;subst this;rw [bj_ ha];exact hp H
  |false=>rw [ha]at h;exact ho f args v H (hr rfl v h)
 |false=>rw [hf]at h;exact ho f args v H (hr rfl v h)
omit [Gl]in
theorem uN_ (g:Nat) (P:Program): @ku_ (ev_ g []) P:=λf args v H h=>by cases h
end Go.Sx
namespace Go.Sx
variable [Gl]
theorem up_ {P:Program} {ls:List AV} {fb:List Fact} (h:∀f∈fb,okC f.v=true/\okC f.c=true/\∃j a,f.i=64+j/\ls[j]? =some a/\f.ok P a):
  ∀Y,Fresh Y 64->KnownF P ⟨fb,[]⟩ (Y.puts 64 ls):=λY hf=>⟨λf hm=>by
 obtain ⟨h1,h2,j,a,h3,h4,h5⟩:=h f hm;simp_all [bI_],λ_ h=>by cases h⟩
omit [Gl]in
theorem uP_ {P:Program} {k:IntKind} {x c r:Int} (hc:c≠0) (hr:x.tmod c=r) (t:TypeId) (cx cy:Bool):bR_ P .rem t cx cy (.int k x) (.int k c)=some (.int k r):=by subst hr;show fY_ P .rem k x k c=_;have hb:Nat.beq (kix k) (kix k)=true:=Nat.beq_refl _;unfold fY_;rw [hb];unfold id_;simp only [binOp,Op.intDiv,hc,ne_eq,not_true_eq_false,if_false];rfl
end Go.Sx
namespace Go.Sx
open Go.ChangeShapes Go.WideShapes
inductive Fit (P:Program):TypeId->List AV->Prop
 |bool {t:TypeId} (b:Bool) (h:P.underlying t=some .bool):Fit P t [.bool b]
 |int {t:TypeId} {k:IntKind} (n:Int) (h:P.underlying t=some (.int k)) (hw:(Lit.int k n).wf=true):Fit P t [.int k n]
 |flt {t:TypeId} {k:FloatKind} (n:Nat) (h:P.underlying t=some (.float k)) (hw:(Lit.float k n).wf=true):Fit P t [.flt k n]
 |str {t:TypeId} (s:List UInt8) (h:P.underlying t=some .string) (hl:s.length<=maxLen):Fit P t [.str s]
 |struct {t:TypeId} {fs:Array Field} (parts:List (List AV)) (h:P.underlying t=some (.struct fs)) (hl:parts.length=fs.size)
   (hp:∀(i:Nat) (f:Field) (p:List AV),fs[i]? =some f->parts[i]? =some p->Fit P f.type p):Fit P t parts.flatten
 |array {t:TypeId} {n:Nat} {e:TypeId} (parts:List (List AV)) (h:P.underlying t=some (.array n e)) (hl:parts.length=n)
   (hp:∀p,p∈parts->Fit P e p):Fit P t parts.flatten
def td_ (P:Program):List Field->Nat->Nat->Bool
 |[],off,tot=>Nat.beq off tot
 |f::r,off,tot=>Nat.beq f.offset off&&td_ P r (off+P.cellsOf f.type) tot
def s2_ (P:Program):Nat->TypeId->Bool
 |0,_=>false
 |d+1,t=>match P.underlying t with
  |some .bool=>Nat.beq (P.cellsOf t) 1
  |some (.int _)=>Nat.beq (P.cellsOf t) 1
  |some (.float _)=>Nat.beq (P.cellsOf t) 1
  |some .string=>Nat.beq (P.cellsOf t) 1
  |some (.struct fs)=>td_ P fs.toList 0 (P.cellsOf t)&&fs.toList.all λf=>s2_ P d f.type
  |some (.array n e)=>Nat.beq (n*P.cellsOf e) (P.cellsOf t)&&s2_ P d e
  |_=>false
section
variable {H:Type} {enc:TypeId×Value->H} {P:Program} {w:World} {base:Nat} {spare:Nat->Bool} {held:Bool}
def np_ (w:World) (ps:List MemPlace) (b o:Nat):Option Value:=if MemPlace.cell b o∈ps then w.cell? ⟨b,o,none⟩else none
theorem sf_ (w:World) (ps:List MemPlace):∀b o v,np_ w ps b o=some v->w.cell? ⟨b,o,none⟩=some v:=by simp [np_]
end
section
variable {P:Program} {t:TypeId} {r:List AV}
end
section
variable {H:Type} {enc:TypeId×Value->H} {P:Program} {W:World}
end
def ec_ (P:Program):Nat->TypeId->Bool
 |0,_=>false
 |d+1,t=>match P.underlying t with
  |some .bool=>true
  |some (.int _)=>true
  |some (.float _)=>true
  |some .string=>true
  |some (.slice e)=>Nat.blt 0 (P.cellsOf e)&&ec_ P d e
  |some (.struct fs)=>fs.toList.all λf=>ec_ P d f.type
  |some (.array _ e)=>ec_ P d e
  |_=>false
section
variable {H:Type} {enc:TypeId×Value->H} {P:Program} {w:World} {base:Nat} {held:Bool} {sp:Nat->Bool}
theorem mO_ {d:Nat} {t:TypeId} (hw:ec_ P (d+1) t=true) {r r':TypeId->List Value->Option (DataW H×List MemPlace)}
  (hr:∀t cs x,ec_ P d t=true->r t cs=some x->(∀p∈x.2,sp p.block=true)->r' t cs=some x) {cs:List Value} {x:DataW H×List MemPlace}
  (h:DataW.trodStep enc P w base (λ_=>true) held r t cs=some x) (hs:∀p∈x.2,sp p.block=true):DataW.trodStep enc P w base sp held r' t cs=some x:=by
 unfold DataW.trodStep at h⊢;split at h
 case h_8 e a len cap ht=>
  unfold ec_ at hw;rw [ht]at hw;simp only [Bool.and_eq_true]at hw;obtain ⟨hz,hwe⟩:=hw;have hz:0<P.cellsOf e:=(by simp_all);split at h
  .rename_i hc;rw [if_pos hc];simp only [Option.map_eq_some_iff,Option.bind_eq_some_iff]at h⊢;obtain ⟨elems,he,rest,hrest,rfl⟩:=h;have one:∀(i:Nat) (y:DataW H×List MemPlace),y∈elems++rest->
     (w.cells? base (a.add (i*P.cellsOf e)) (P.cellsOf e)).bind (r e)=some y->(w.cells? base (a.add (i*P.cellsOf e)) (P.cellsOf e)).bind (r' e)=some y:=by
    grind [Option.bind_eq_some_iff]
   refine ⟨elems,mapM_carry he (λi y hi hy=>one i y (by simp [hy])),rest,?_,rfl⟩;have hrl:rest.length=cap-len:=(by simpa using mapM_some_length hrest);cases hrl0:cap-len with
   |zero=>
    grind
   |succ m=>
    have hsa:sp a.block=true:=by refine hs (.cell a.block (a.off+0)) ?_;simp only [List.mem_append];left;refine MemPlace.mem_row.2 ⟨0,Nat.mul_pos (by omega) hz,rfl⟩
    grind [mapM_carry]
  cases h
 case h_9 fs _ _ ht=>
  unfold ec_ at hw;rw [ht]at hw;simp only [List.all_eq_true]at hw;split at h;rename_i hc;rw [if_pos hc];simp only [Option.map_eq_some_iff]at h⊢;obtain ⟨xs,hx,rfl⟩:=h;exact ⟨xs,mapM_carry hx (λf y hf hy hv=>hr _ _ _ (hw f hf) hv (λp hp=>hs p (List.mem_flatMap.2 ⟨y,hy,hp⟩))),rfl⟩;cases h
 case h_10 n e _ _ ht=>
  unfold ec_ at hw;rw [ht]at hw;split at h;rename_i hc;rw [if_pos hc];simp only [Option.map_eq_some_iff]at h⊢;obtain ⟨xs,hx,rfl⟩:=h;exact ⟨xs,mapM_carry hx (λf y _ hy hv=>hr _ _ _ hw hv (λp hp=>hs p (List.mem_flatMap.2 ⟨y,hy,hp⟩))),rfl⟩;cases h
 all_goals grind [ec_]
theorem sK_:∀(n d:Nat) (t:TypeId) (cs:List Value) (x:DataW H×List MemPlace),ec_ P d t=true->
  DataW.trod enc P w base (λ_=>true) held n t cs=some x->(∀p∈x.2,sp p.block=true)->DataW.trod enc P w base sp held n t cs=some x:=by
 intro n
 induction n with
 |zero=>simp [DataW.trod]
 |succ n ih=>intro d t cs x hw h hs;cases d<;>grind [ec_,DataW.trod_step,mO_]
theorem lc_ {W W':World} (h:GrownB W W') {p:MemPlace} (hp:p.block<W.heap.size):W.sameAt W' p:=by
 obtain ⟨⟨_,_,hk⟩,_,hs⟩:=h;have hb:=hk p.block hp;cases p with
 |cell b off=>
  simp only [MemPlace.block]at hp hb;show W'.cell? ⟨b,off,none⟩=W.cell? ⟨b,off,none⟩;unfold World.cell?
  grind
 |map b=>
  simp only [MemPlace.block]at hp hb;show W'.heap[b]? =W.heap[b]?;obtain ⟨o1,h1⟩:∃o,W.heap[b]? =some o:=⟨W.heap[b],Array.getElem?_eq_getElem hp⟩;obtain ⟨o2,h2⟩:∃o,W'.heap[b]? =some o:=⟨W'.heap[b]'(by omega),Array.getElem?_eq_getElem (by omega)⟩;rw [h1,h2]at hb;rw [h1,h2];cases o1 with
  |cells c t fr=>
   cases o2 with
   |cells c' t' fr'=>obtain ⟨rfl,rfl,_,hc⟩:=hb;have:c'=c:=Array.ext_getElem? λj=>hc j (λh=>h);rw [this]
   |_=>cases hb
  |map es cl=>
   grind
  |_=>omega
theorem trodAll_again {d:Nat} {W W':World} (hg:GrownB W W'):∀{ts:List TypeId} {vs:List Value} {ds:List (DataW H)} {ps:List MemPlace},(ts.all λt=>ec_ P d t)=true->
  DataW.TrodAll enc P W 0 (λ_=>true) held ts vs ds ps->(∀p∈ps,p.block<W.heap.size)->(∀p∈ps,sp p.block=true)->DataW.TrodAll enc P W' 0 sp held ts vs ds ps
 |[],[],[],_,_,h,_,_=>h
 |t::ts,v::vs,dd::ds,_,hw,⟨p,q,⟨n,h1⟩,h2,rfl⟩,hlt,hsp=>by
  simp only [List.all_cons,Bool.and_eq_true]at hw;refine ⟨p,q,⟨n,?_⟩,trodAll_again hg hw.2 h2 (λx hx=>hlt x (by simp [hx])) (λx hx=>hsp x (by simp [hx])),rfl⟩
  grind [DataW.trod_carry,sK_,lc_]
end
variable [Gl]
end Go.Sx
