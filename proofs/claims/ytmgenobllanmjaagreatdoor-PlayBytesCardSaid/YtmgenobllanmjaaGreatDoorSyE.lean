/-
  A call of plain values, run with symbols.
-/
import Derived.Test.YtmgenobllanmjaaGreatDoorSyD
import Derived.Laws.Externs
import Derived.Lib.IndexEntry
import Derived.ChangeReads
import Derived.ChangeArms
import Derived.ChangeShapes
import Derived.WideShapes
set_option linter.unusedVariables false
set_option linter.unusedSimpArgs false
namespace Go.Sx
def jh_:List AV->Bool
 |[]=>true
 |a::r=>match okI a with
  |true=>jh_ r
  |false=>false
theorem kT_ {E:Env}:∀{as:List AV} {vs:List Value},jh_ as=true->ConL E as vs->Con0L E as vs
 |[],_,_,hc=>by grind [Con0L,ConL]
 |a::as,vs,h,hc=>by
  simp only [ConL]at hc;simp only [Con0L];obtain ⟨v,r,e,c1,c2⟩:=hc;simp only [jh_]at h;cases ha:okI a with
  |true=>rw [ha]at h;exact ⟨v,r,e,ji_ ha c1,kT_ h c2⟩
  |false=>rw [ha]at h;cases h
theorem c1_:∀{l:List AV},okL l=true->∀a∈l,okC a=true
 |[],_,a,h=>by cases h
 |b::r,h,a,hm=>by
  rw [a0_]at h;obtain ⟨h1,h2⟩:=aa_ h;cases hm with
  |head=>exact h1
  |tail _ hm=>exact c1_ h2 a hm
theorem jt_:∀{Y:Sy} {n:Nat} (l:List AV) (i:Nat) (a:AV),(Y.puts n l).v i=some a->Y.v i=some a\/a∈l
 |Y,n,[],i,a,h=>.inl h
 |Y,n,b::r,i,a,h=>by rcases jt_ (Y:=Y.put n b) (n:=n+1) r i a h with h|h;by_cases e:i=n;subst e;rw [Sy.put_same]at h;cases h;exact .inr (List.mem_cons_self ..);rw [Sy.put_ne _ _ e]at h;exact .inl h;exact .inr (List.mem_cons_of_mem _ h)
theorem hV_:∀n m:Nat,ad_ (ag_ n m)=true
 |_,0=>rfl
 |n,m+1=>by simp only [ag_,ad_,ae_];exact hV_ (n+1) m
theorem ts_ {a:AV} (h:okC a=true):okI a=true:=by cases a<;>first|(exact h)|(simp [okC]at h)
variable [Gl]
theorem pure_sym {P:Program} {f:FuncId} {args args' ls:List AV} {v:AV} (hok:jh_ args=true) (hv:a1_ v=true) (hso:ad_ args'=true) (hls:okL ls=true)
  (hden:∀Y,Fresh Y 64->ab_ (Y.puts 64 ls).v args'=args) (h:∀Y,Fresh Y 64->Gl.gt Y.v->SemCallF P 0 (Y.puts 64 ls) f args' H0 (e8_ (· =v))):iu_ P f args v:=by
 intro H B pr E w vs hg hr hc
 let Yg:Sy:=⟨λi=>if i<64 then E.sy i else none,λ_=>none⟩
 have hfr:Fresh Yg 64:=⟨Nat.le_refl _,λi hi=>if_neg (by omega)⟩;have hlow:∀i,i<64->Yg.v i=E.sy i:=λi hi=>if_pos hi;have hgt:Gl.gt Yg.v:=Gl.gtm _ _ hlow hg.2;obtain ⟨p1,p2,p3,p4⟩:=hfr.puts ls
 let E1:Env:=⟨λ_=>none,E.sz,E.imm,λ_=>False,E.imm,(Yg.puts 64 ls).v,(Yg.puts 64 ls).l,λ_=>False⟩
 have hlow1:∀i,i<64->E1.sy i=E.sy i:=λi hi=>(p4 i hi).trans (hlow i hi);have hg1:GlOk E1:=⟨λg=>cy_ (E:=E) (E':=E1) (λ_ _ _ h=>h) (λi a hi hx=>(hlow1 i hi).trans hx) (Gl.nr g) (hg.1 g),Gl.gtm _ _ hlow1 hg.2⟩
 have hrel:Rel w (λb=>b<w.heap.size) E1 H0 w:={
  own:=⟨λ_=>none,λid k hk=>(lD_ hk).elim,λ_ _=>rfl,λ_ _ _ _=>rfl⟩
  imm:=hr.imm
  ib:=λ_ _ _ _ h=>h
  fresh:=λ_ _ _=>rfl
  resv:=λ_ h=>h.elim
  vds:=λ_ h=>h.elim
  szs:=hr.szs
  prot:=λb h=>⟨h,rfl⟩
  size:=Nat.le_refl _
  os:=rfl
  output:=rfl }
 have hone:∀i a,E1.sy i=some a->a.one=true:=λi a hx=>by
  rcases jt_ ls i a hx with hx|hx
  .by_cases hi:i<64
   .grind [Gl.gto]
   grind
  grind [ba_,c1_]
 have hcon:ConL E1 args' vs:=by refine dc_ hone hso ?_;have:ab_ E1.sy args'=args:=hden Yg hfr;rw [this];exact bs_ (E:=E) (E':=E1) (λ_ _ _ h=>h) (kT_ hok hc)
 refine Calls.mono (h Yg hfr hgt w (λb=>b<w.heap.size) E1 w vs ⟨rfl,rfl,λ_ h=>h⟩ hg1 hrel hcon) λe w' he=>?_;obtain ⟨Y',r,⟨a,H1,v',m,rfl,hs,hso',hQ⟩,E',hle,hy',u,rfl,h1,h2⟩:=he;obtain ⟨E2,f1,f2,f3,f4,_,f5,f6⟩:=h2.freeze;have hcon2:=nr_ h2 f1 f6 m _ _ _ hs h1;have hv0:Con0 E2 v u:=by have:=ao_ hso' hcon2;rw [f1.2.2.2.1,hy'.v,hQ]at this;exact this
 obtain ⟨own,g1,g2,g3⟩:=hr.own;have hsz:∀b n,E.sz b=some n->E2.sz b=some n:=λb n hx=>f1.2.1 b n (hle.sz b n hx);have him:∀b o v,E.imm b o=some v->E2.imm b o=some v:=λb o v hx=>f1.2.2.1 b o v (hle.imm b o v hx);have hold:∀b o v,b<w.heap.size->E2.imm b o=some v->E.imm b o=some v:=λb o v hb hx=>by have:=f5.ib b o v hb hx;rw [f4,hle.bim]at this;exact this
 refine ⟨⟨E.φ,E2.sz,E2.imm,E.res,E.bim,E.sy,E.syl,E.vd⟩,⟨⟨λ_ _ h=>h,hsz,him,rfl,rfl⟩,rfl,rfl,rfl⟩,u,rfl,(ce_ (E:=E2) (E':=⟨E.φ,E2.sz,E2.imm,E.res,E.bim,E.sy,E.syl,E.vd⟩) (λ_ _ _ h=>h) hv0).con,?_⟩;have hsub:E.sub ⟨E.φ,E2.sz,E2.imm,E.res,E.bim,E.sy,E.syl,E.vd⟩:=⟨λ_ _ h=>h,hsz,him,rfl,rfl⟩
 refine { own:=⟨λb=>if b<w.heap.size then own b else none,λid k hk=>?_,λb hb=>?_,λb o v hx=>?_⟩,imm:=f5.imm,ib:=λb o v hb hx=>?_,fresh:=hr.fresh,resv:=hr.resv,vds:=hr.vds,szs:=f5.szs,prot:=λb hb=>?_,
          size:=Nat.le_trans hr.size h2.size,os:=h2.os.trans hr.os,output:=h2.output.trans hr.output }
 exact (g1 id k hk).imp (λ_ h=>h) (λh=>h) λb o e1 e2 e3=>⟨(if_pos e3.lt).trans e2,e3.sub hsub (h2.prot b e3.lt).2⟩
 .grind
 .grind
 have hlt:=Nat.lt_of_lt_of_le (hr.prot b hb).1 hr.size;exact hr.ib b o v hb (hold b o v hlt hx);obtain ⟨e1,e2⟩:=hr.prot b hb;exact ⟨e1,(h2.prot b (Nat.lt_of_lt_of_le e1 hr.size)).2.trans e2⟩
def oW_ (v:AV):Tree->Bool
 | .done a=>match okI a with
   |true=>bV_ a v
   |false=>false
 |_=>false
omit [Gl]in
theorem mm_ {P:Program} {v:AV} {t:Tree} {Y:Sy} (h:oW_ v t=true):a7_ P (· =v) Y t:=by
 unfold oW_ at h;split at h
 .split at h<;>grind [aF_,ib_,a7_]
 cases h
def glI (g:Nat):Nat->AV:=λi=>match Nat.beq i g with
 |true=>.vptr [.sym 0]
 |false=>.opq
omit [Gl]in
theorem nrI (g i:Nat):a1_ (glI g i)=true:=by unfold glI;split<;>simp [a1_,cl_,Nat.blt]
def gtI (s:Nat->Option AV):Prop:=∃m:Int,s 0=some (.int .i64 m)/\∀i,i<64->i≠0->s i=none
abbrev RD:=FuncId->List AV->AHeap->Option AV
def rd0:RD:=λ_ _ _=>none
def ovR (l:List (FuncId×List AV×AV)) (rd:RD) (f:FuncId) (args:List AV) (H:AHeap):Option AV:=match oq_ l f args with
 |some v=>some v
 |none=>rd f args H
abbrev eN_ (g:Nat) (l:List (FuncId×List AV×AV)) (rd:RD:=rd0):Gl:=⟨glI g,ovR l rd,nrI g,gtI,
 λs s' h hs=>by obtain ⟨m,h1,h2⟩:=hs;exact ⟨m,(h 0 (by omega)).trans h1,λi hi hn=>(h i hi).trans (h2 i hi hn)⟩,
 λs hs i a hi ha=>by
  obtain ⟨m,h1,h2⟩:=hs;by_cases e:i=0;subst e;rw [h1]at ha;cases ha;rfl
  grind⟩
def lx_ (c:Int) (b:Bool):List Fact:=[⟨.leq,false,0,.int .i64 c,.bool b⟩,⟨.gtr,false,0,.int .i64 c,.bool (not b)⟩]
def un_ (P:Program) (n:Nat) (c:Int) (fx:FuncId) (f:FuncId) (args:List AV) (v:AV):Bool:=match jh_ args&&(a1_ v&&ad_ args)with
 |true=>oW_ v (xFn P n ⟨lx_ c true,[⟨fx,args,v⟩]⟩ f args 64)&&oW_ v (xFn P n ⟨lx_ c false,[]⟩ f args 64)
 |false=>false
omit [Gl]in
theorem qg_ {P:Program} {c m:Int} {Y:Sy} (h:Y.v 0=some (.int .i64 m)):∀f∈lx_ c (decide (c<=m)),okC f.v=true/\okC f.c=true/\∃a,Y.v f.i=some a/\f.ok P a:=by
 intro f hf;have hlt:ltI m c=decide (m<c):=eS_ m c;have hn:(!decide (m<c))=decide (c<=m):=kR_ m c;simp only [lx_,List.mem_cons,List.not_mem_nil,or_false]at hf;rcases hf with rfl|rfl;refine ⟨rfl,rfl,_,h,λt cx cy=>?_⟩;show some (AV.bool (not (ltI m c)))=some (.bool (decide (c<=m)));rw [hlt,hn]
 .refine ⟨rfl,rfl,_,h,λt cx cy=>?_⟩;show some (AV.bool (ltI m c))=some (.bool (not (decide (c<=m))))
  grind
def vK_ (args:List AV) (c:Int) (v:AV):Bool:=match args with
 |[.str a,.str b]=>match v with
  | .int .i64 r=>Nat.ble 2 b.length&&(decide ((b.length:Int)<=c)&&(Nat.blt a.length 4294967281&&decide (Lib.index a b=r)))
  |_=>false
 |_=>false
omit [Gl]in
theorem mj_ (s:Nat->Option AV):∀{l:List AV},jh_ l=true->ab_ s l=l
 |[],_=>rfl
 |a::r,h=>by
  simp only [jh_]at h;cases ha:okI a with
  |true=>rw [ha]at h;simp only [ab_];rw [ib_ s ha,mj_ s h]
  |false=>rw [ha]at h;cases h
omit [Gl]in
theorem vR_ {P:Program} (hm:P.follows .mixedOrders=true) {g:Nat} {l:List (FuncId×List AV×AV)} {rd:RD} (ho: @j0_ (eN_ g l rd) P) {n:Nat} {c:Int} {fx f:FuncId} {fn:Func} {args:List AV} {v:AV}
  (hfx:P.funcs[fx]? =some fn) (hnm:(fn.name== "runtime.NumGoroutine")=false) (hb:fn.body.isNone=true) (hn:Extern.findNext fn=none) (he:Extern.find fn=some Extern.BytealgIndex.index)
  (hgv:P.globals.findIdx? (·.name==(entryReads.headD ("","")).2)=some g) (hix:vK_ args c v=true)
  (h: @un_ (eN_ g l rd) P n c fx f args v=true): @iu_ (eN_ g l rd) P f args v:=by
 unfold un_ at h;split at h
 .rename_i hna;obtain ⟨h1,h2⟩:=aa_ hna;obtain ⟨h2,h3⟩:=aa_ h2;obtain ⟨q1,q2⟩:=aa_ h;refine @pure_sym (eN_ g l rd) P f args args [] v h1 h2 h3 rfl (λY _=>mj_ _ h1) λY hf hg=>?_;obtain ⟨m,hg1,hg2⟩:=hg;have hk:=qg_ (P:=P) (c:=c) (m:=m) (Y:=Y) hg1;by_cases hle:c<=m
  .have hb':decide (c<=m)=true:=decide_eq_true hle;rw [hb']at hk;have hx:∀q∈[(⟨fx,args,v⟩:XF)],@XOk (eN_ g l rd) P Y q:=by
    intro q hq;simp only [List.mem_cons,List.not_mem_nil,or_false]at hq;subst hq;intro B pr E H w vs hy hgl hr hcon;unfold vK_ at hix;split at hix
    .rename_i a b;have hv:∃r,v=.int .i64 r/\(Nat.ble 2 b.length&&(decide ((b.length:Int)<=c)&&(Nat.blt a.length 4294967281&&decide (Lib.index a b=r))))=true:=by
      grind
     .obtain ⟨r,rfl,hix⟩:=hv;obtain ⟨i1,hix⟩:=aa_ hix;obtain ⟨i2,hix⟩:=aa_ hix;obtain ⟨i3,i4⟩:=aa_ hix;have i1:2<=b.length:=Nat.le_of_ble_eq_true i1;have i2:(b.length:Int)<=c:=of_decide_eq_true i2;have i3:(ByteArray.mk ⟨a⟩).size<4294967281:=(by show a.length<4294967281;simp_all);obtain ⟨v1,r1,rfl,rfl,v2,r2,rfl,rfl,rfl⟩:=hcon;have hcell:w.cell? ⟨g,0,none⟩=some (.int .i64 m):=by
       have hgg:=hgl.1 g;have: @Gl.gl (eN_ g l rd) g=.vptr [.sym 0]:=(by grind [glI,Nat.beq_refl]);rw [this]at hgg;obtain ⟨b0,o0,vs0,e0,⟨u0,r0,rfl,⟨a0,e1,e2,e3⟩,rfl⟩,himm⟩:=hgg;rw [hy 0 (by omega)]at e1;have:Y.v 0=some a0:=e1;rw [hg1]at this;cases this;simp only [Con0]at e3;have:=hr.imm _ _ _ (himm 0 _ rfl)
       grind
      refine ⟨.int .i64 r,?_,by simp only [Con]⟩;have hs2:2<=(ByteArray.mk ⟨b⟩).size:=i1;have hs3:(((ByteArray.mk ⟨b⟩).size:Nat):Int)<=m:=Int.le_trans i2 hle;rw [run_callFunc_extern hfx hnm hb hn he,Lib.run_indexString _ _ w g m hgv hcell hs2 hs3 i3];simp_all
    cases hix
   exact @sS_ (eN_ g l rd) P (· =v) n _ hm (@cd_ (eN_ g l rd) P hm ho n) f args 64 Y ⟨hf,hk,hx⟩ (mm_ q1)
  have hb':decide (c<=m)=false:=decide_eq_false hle;rw [hb']at hk;exact @sS_ (eN_ g l rd) P (· =v) n _ hm (@cd_ (eN_ g l rd) P hm ho n) f args 64 Y ⟨hf,hk,λ_ h=>by cases h⟩ (mm_ q2)
 cases h
omit [Gl]in
theorem vT_ {g:Nat} {P:Program} {l l':List (FuncId×List AV×AV)} {rd rd':RD} {F:FuncId} {A:List AV} {V:AV} (ho: @j0_ (eN_ g l rd) P) (hp: @iu_ (eN_ g l' rd') P F A V): @j0_ (eN_ g ((F,A,V)::l) rd) P:=by
 intro f args v H h;have h:ovR ((F,A,V)::l) rd f args H=some v:=h;have hr:oq_ l f args=oq_ l f args->∀x,(match oq_ l f args with
  |some v=>some v
  |none=>rd f args H)=some x-> @Gl.ov (eN_ g l rd) f args H=some x:=λ_ x hx=>hx
 unfold ovR oq_ at h;cases hf:Nat.beq f F with
 |true=>
  rw [hf]at h;cases ha:ds_ args A with
  |true=>rw [ha]at h;cases h;have:=Nat.eq_of_beq_eq_true hf;subst this;rw [bi_ ha];exact hp H
  |false=>rw [ha]at h;exact ho f args v H (hr rfl v h)
 |false=>rw [hf]at h;exact ho f args v H (hr rfl v h)
omit [Gl]in
theorem wh_ (g:Nat) (P:Program): @j0_ (eN_ g []) P:=λf args v H h=>by cases h
end Go.Sx
namespace Go.Sx
variable [Gl]
omit [Gl]in
theorem tE_ {P:Program} {k:IntKind} {x c r:Int} (hc:c≠0) (hr:x.tmod c=r) (t:TypeId) (cx cy:Bool):bI_ P .rem t cx cy (.int k x) (.int k c)=some (.int k r):=by subst hr;show cg_ P .rem k x k c=_;have hb:Nat.beq (kix k) (kix k)=true:=Nat.beq_refl _;unfold cg_;rw [hb];unfold gW_;simp only [binOp,Op.intDiv,hc,ne_eq,not_true_eq_false,if_false];rfl
end Go.Sx
namespace Go.Sx
open Go.ChangeShapes Go.WideShapes
inductive Fit (P:Program):TypeId->List AV->Prop
 |bool {t:TypeId} (b:Bool) (h:P.underlying t=some .bool):Fit P t [.bool b]
 |int {t:TypeId} {k:IntKind} (n:Int) (h:P.underlying t=some (.int k)) (hw:(Lit.int k n).wf=true):Fit P t [.int k n]
 |flt {t:TypeId} {k:FloatKind} (n:Nat) (h:P.underlying t=some (.float k)) (hw:(Lit.float k n).wf=true):Fit P t [.flt k n]
 |str {t:TypeId} (s:List UInt8) (h:P.underlying t=some .string) (hl:s.length<=maxLen):Fit P t [.str s]
 |struct {t:TypeId} {fs:Array Field} (parts:List (List AV)) (h:P.underlying t=some (.struct fs)) (hl:parts.length=fs.size)
   (hp:∀(i:Nat) (f:Field) (p:List AV),fs[i]? =some f->parts[i]? =some p->Fit P f.type p):Fit P t parts.flatten
 |array {t:TypeId} {n:Nat} {e:TypeId} (parts:List (List AV)) (h:P.underlying t=some (.array n e)) (hl:parts.length=n)
   (hp:∀p,p∈parts->Fit P e p):Fit P t parts.flatten
def jo_ (P:Program):List Field->Nat->Nat->Bool
 |[],off,tot=>Nat.beq off tot
 |f::r,off,tot=>Nat.beq f.offset off&&jo_ P r (off+P.cellsOf f.type) tot
def eL_ (P:Program):Nat->TypeId->Bool
 |0,_=>false
 |d+1,t=>match P.underlying t with
  |some .bool=>Nat.beq (P.cellsOf t) 1
  |some (.int _)=>Nat.beq (P.cellsOf t) 1
  |some (.float _)=>Nat.beq (P.cellsOf t) 1
  |some .string=>Nat.beq (P.cellsOf t) 1
  |some (.struct fs)=>jo_ P fs.toList 0 (P.cellsOf t)&&fs.toList.all λf=>eL_ P d f.type
  |some (.array n e)=>Nat.beq (n*P.cellsOf e) (P.cellsOf t)&&eL_ P d e
  |_=>false
theorem bP_ {E:Env}:∀{a b:List AV} {u v:List Value},Con0L E a u->Con0L E b v->Con0L E (a++b) (u++v)
 |[],b,u,v,h,h'=>by
  grind [Con0L]
 |x::a,b,u,v,h,h'=>by obtain ⟨y,r,rfl,h1,h2⟩:=h;exact ⟨y,r++v,rfl,h1,bP_ h2 h'⟩
theorem okL_join {a b:List AV} (ha:okL a=true) (hb:okL b=true):okL (a++b)=true:=by
 induction a with
 |nil=>exact hb
 |cons x r ih=>simp_all [a0_]
section
variable {H:Type} {enc:TypeId×Value->H} {P:Program} {w:World} {base:Nat} {spare:Nat->Bool} {held:Bool}
theorem oE_ {fuel:Nat} {t:TypeId} {cs:List Value} {x:DataW H×List MemPlace} {k:FloatKind} (ht:P.underlying t=some (.float k)) (h:DataW.trod enc P w base spare held fuel t cs=some x):
  ∃n,cs=[.float k n]/\x=(.lit (.float k n),[])/\(Lit.float k n).wf=true:=by
 cases fuel with
 |zero=>simp [DataW.trod]at h
 |succ n=>
  unfold DataW.trod at h
  grind
theorem oD_ {fuel:Nat} {t e:TypeId} {m:Nat} {cs:List Value} {x:DataW H×List MemPlace} (ht:P.underlying t=some (.array m e)) (h:DataW.trod enc P w base spare held fuel t cs=some x):
  ∃(xs:List (DataW H×List MemPlace)) (n:Nat),fuel=n+1/\x=(.agg (xs.map (·.1)),xs.flatMap (·.2))/\cs.length=P.cellsOf t/\xs.length=m/\
   ∀i,i<m->DataW.trod enc P w base spare held n e ((cs.drop (i*P.cellsOf e)).take (P.cellsOf e))=xs[i]? :=by
 cases fuel with
 |zero=>simp [DataW.trod]at h
 |succ n=>
  unfold DataW.trod at h;split at h<;>simp_all
  obtain ⟨hl,xs,hp,hd⟩:=h;exact ⟨xs,hd.symm,by simpa using mapM_some_length hp,λi hi=>mapM_some_get hp i i (by simp [hi])⟩
def RdF (P:Program) (t:TypeId) (cs:List Value) (as:List AV):Prop:=Fit P t as/\okL as=true/\as.length=cs.length/\∀E:Env,Con0L E as cs
theorem pE_ {tot:Nat} {cs:List Value} (hcs:cs.length=tot):∀(fs:List Field) (off:Nat),jo_ P fs off tot=true->(∀f:Field,f∈fs->∃as,RdF P f.type ((cs.drop f.offset).take (P.cellsOf f.type)) as/\as.length=P.cellsOf f.type)->
  ∃parts:List (List AV),parts.length=fs.length/\(∀(i:Nat) (f:Field) (p:List AV),fs[i]? =some f->parts[i]? =some p->Fit P f.type p)/\okL parts.flatten=true/\parts.flatten.length=cs.length-off/\off<=cs.length/\∀E:Env,Con0L E parts.flatten (cs.drop off)
 |[],off,h,_=>by have h:off=tot:=Nat.eq_of_beq_eq_true h;refine ⟨[],rfl,(λi f p h=>by simp at h),rfl,by simp;omega,by omega,λE=>?_⟩;rw [h,←hcs,List.drop_length];rfl
 |f::r,off,h,hf=>by
  simp only [jo_,Bool.and_eq_true]at h;obtain ⟨h1,h2⟩:=h;have h1:f.offset=off:=Nat.eq_of_beq_eq_true h1;obtain ⟨as,⟨g1,g2,g3,g4⟩,g5⟩:=hf f (List.mem_cons_self ..);obtain ⟨parts,k1,k2,k3,k4,k5,k6⟩:=pE_ hcs r (off+P.cellsOf f.type) h2 λf hm=>hf f (List.mem_cons_of_mem _ hm);refine ⟨as::parts,by simp [k1],λi f' p h h'=>?_,?_,?_,by omega,λE=>?_⟩
  .grind
  all_goals grind [okL_join,List.drop_drop,List.take_append_drop,bP_]
theorem l9_ {sz:Nat} {e:TypeId} {cs:List Value}:∀(n off:Nat),cs.length=off+n*sz->(∀i,i<n->∃as,RdF P e ((cs.drop (off+i*sz)).take sz) as)->
  ∃parts:List (List AV),parts.length=n/\(∀p,p∈parts->Fit P e p)/\okL parts.flatten=true/\parts.flatten.length=cs.length-off/\∀E:Env,Con0L E parts.flatten (cs.drop off)
 |0,off,h,_=>by refine ⟨[],rfl,(λp h=>by cases h),rfl,by simp;omega,λE=>?_⟩;rw [show off=cs.length by omega,List.drop_length];rfl
 |n+1,off,h,hf=>by
  have hm:(n+1)*sz=sz+n*sz:=(by grind);obtain ⟨as,g1,g2,g3,g4⟩:=hf 0 (Nat.succ_pos n);obtain ⟨parts,k1,k2,k3,k4,k5⟩:=l9_ (sz:=sz) (e:=e) (cs:=cs) n (off+sz) (by omega) λi hi=>by
   grind
  refine ⟨as::parts,by simp [k1],λp h=>?_,?_,?_,λE=>?_⟩;all_goals grind [okL_join,List.drop_drop,List.take_append_drop,bP_]
theorem fp_:∀(d fuel:Nat) (t:TypeId) (cs:List Value) (x:DataW H×List MemPlace),eL_ P d t=true->DataW.trod enc P w base spare held fuel t cs=some x->x.2=[]/\cs.length=P.cellsOf t/\∃as,RdF P t cs as
 |0,fuel,t,cs,x,h,_=>by simp [eL_]at h
 |d+1,fuel,t,cs,x,h,hx=>by
  unfold eL_ at h;split at h;rename_i ht;obtain ⟨b,rfl,rfl⟩:=DataW.trod_bool ht hx;exact ⟨rfl,by simp_all,[.bool b],.bool b ht,rfl,rfl,λE=>⟨_,_,rfl,rfl,rfl⟩⟩;rename_i k ht;obtain ⟨n,rfl,rfl,hw⟩:=DataW.trod_int ht hx;exact ⟨rfl,by simp_all,[.int k n],.int n ht hw,rfl,rfl,λE=>⟨_,_,rfl,rfl,rfl⟩⟩;rename_i k ht;obtain ⟨n,rfl,rfl,hw⟩:=oE_ ht hx;exact ⟨rfl,by simp_all,[.flt k n],.flt n ht hw,rfl,rfl,λE=>⟨_,_,rfl,rfl,rfl⟩⟩;rename_i ht;obtain ⟨s,rfl,rfl,hs⟩:=DataW.trod_string ht hx;refine ⟨rfl,by simp_all,[.str s.data.toList],.str _ ht (by simpa using hs),rfl,rfl,λE=>⟨_,_,rfl,?_,rfl⟩⟩;rfl
  .rename_i fs ht;simp only [Bool.and_eq_true,List.all_eq_true]at h;obtain ⟨h1,h2⟩:=h;obtain ⟨xs,n,rfl,rfl,hl,hxl,hel⟩:=DataW.trod_struct ht hx;have hat:∀(i:Nat) (f:Field),fs[i]? =some f->∃y,xs[i]? =some y/\DataW.trod enc P w base spare held n f.type ((cs.drop f.offset).take (P.cellsOf f.type))=some y:=λi f hf=>by
    grind
   have hfield:∀f:Field,f∈fs.toList->∃y,DataW.trod enc P w base spare held n f.type ((cs.drop f.offset).take (P.cellsOf f.type))=some y:=λf hm=>by
    grind [List.getElem?_of_mem]
   obtain ⟨parts,k1,k2,k3,k4,_,k5⟩:=pE_ (P:=P) hl fs.toList 0 h1 λf hm=>by
    obtain ⟨y,hy⟩:=hfield f hm;obtain ⟨_,q1,as,q2⟩:=fp_ d n f.type _ y (h2 f hm) hy
    grind [RdF]
   refine ⟨?_,hl,parts.flatten,.struct parts ht (by omega) (λi f p h h'=>k2 i f p (by simpa using h) h'),k3,by omega,λE=>by grind⟩;rw [List.flatMap_eq_nil_iff];intro y hy;obtain ⟨i,hi⟩:=List.getElem?_of_mem hy;have hlt:i<fs.size:=(by grind);obtain ⟨y',e1,e2⟩:=hat i fs[i] (Array.getElem?_eq_getElem hlt);rw [hi]at e1;cases e1;exact (fp_ d n _ _ _ (h2 _ (by simp)) e2).1
  .rename_i m e ht;simp only [Bool.and_eq_true]at h;obtain ⟨h1,h2⟩:=h;have h1:=Nat.eq_of_beq_eq_true h1;obtain ⟨xs,n,rfl,rfl,hl,hxl,hel⟩:=oD_ ht hx;obtain ⟨parts,k1,k2,k3,k4,k5⟩:=l9_ (P:=P) (e:=e) (sz:=P.cellsOf e) (cs:=cs) m 0 (by omega) λi hi=>by
    have:=hel i hi;rw [List.getElem?_eq_getElem (by omega)]at this;obtain ⟨_,_,as,q⟩:=fp_ d n e _ _ h2 this
    grind
   refine ⟨?_,hl,parts.flatten,.array parts ht k1 k2,k3,by omega,λE=>by grind⟩;rw [List.flatMap_eq_nil_iff];intro y hy;obtain ⟨i,hi⟩:=List.getElem?_of_mem hy;have hlt:i<m:=(by grind);have:=hel i hlt;rw [hi]at this;exact (fp_ d n e _ _ h2 this).1
  cases h
def ew_ (w:World) (ps:List MemPlace) (b o:Nat):Option Value:=if MemPlace.cell b o∈ps then w.cell? ⟨b,o,none⟩else none
theorem te_ (w:World) (ps:List MemPlace):∀b o v,ew_ w ps b o=some v->w.cell? ⟨b,o,none⟩=some v:=by simp [ew_]
theorem lQ_ {e:TypeId} {a:Addr} {ha:a.spot=none} {d n:Nat} {ps:List MemPlace} (hf:eL_ P d e=true):∀(len k:Nat),(∀i,i<len->∃cs y,w.cells? base (a.add ((k+i)*P.cellsOf e)) (P.cellsOf e)=some cs/\DataW.trod enc P w base spare held n e cs=some y)->
  (∀j,j<len*P.cellsOf e->MemPlace.cell a.block (a.off+(k*P.cellsOf e+j))∈ps)->
  ∃(rows:List (List AV)) (vs:List Value),rows.length=len/\(∀r,r∈rows->Fit P e r)/\okL rows.flatten=true/\vs.length=len*P.cellsOf e/\(∀E:Env,Con0L E rows.flatten vs)/\
   ∀j u,vs[j]? =some u->ew_ w ps a.block (a.off+k*P.cellsOf e+j)=some u
 |0,k,_,_=>⟨[],[],rfl,(λr h=>by cases h),rfl,by simp,λE=>(rfl:([]:List Value)=[]),λj u h=>(by simp at h)⟩
 |len+1,k,h,hp=>by
  obtain ⟨cs,y,hc,hy⟩:=h 0 (Nat.succ_pos _);obtain ⟨_,hl,as,q1,q2,q3,q4⟩:=fp_ d n e cs y hf hy;obtain ⟨rows,vs,k1,k2,k3,k4,k5,k6⟩:=lQ_ (ha:=ha) hf len (k+1) (λi hi=>by
   have:=h (i+1) (by omega);rw [show k+(i+1)=k+1+i by omega]at this;exact this) (λj hj=>by
   have:=hp (P.cellsOf e+j) (by grind);rw [show k*P.cellsOf e+(P.cellsOf e+j)=(k+1)*P.cellsOf e+j by grind]at this;exact this)
  refine ⟨as::rows,cs++vs,by simp [k1],λr hr=>?_,?_,?_,λE=>?_,λj u hu=>?_⟩
  .grind
  .grind [okL_join]
  .grind
  .grind [bP_]
  .by_cases hj:j<cs.length
   .obtain ⟨_,hl2,hat⟩:=World.cells?_some hc;have hm:=hp j (by grind);unfold ew_;obtain ⟨ab,ao,as'⟩:=a
    grind [Addr.add]
   grind
theorem nq_ {t e:TypeId} {d fuel:Nat} {v:Value} {x:DataW H×List MemPlace} {ps:List MemPlace} (ht:P.underlying t=some (.slice e)) (hf:eL_ P d e=true) (hok:∀a l c,v=.slice (some a) l c->a.spot=none)
  (hx:DataW.trod enc P w base (λ_=>true) held fuel t [v]=some x) (hps:∀p,p∈x.2->p∈ps):
  v=.slice none 0 0\/∃rows:List (List AV),(∀r,r∈rows->Fit P e r)/\rows.length<=maxLen/\okL rows.flatten=true/\Con (fI_ (ew_ w ps)) (.vsl rows.length (P.cellsOf e) rows.flatten) v:=by
 rcases DataW.trod_slice ht hx with ⟨h,_⟩|⟨a,len,cap,elems,rest,n,rfl,hv,rfl,_,hl,hm,hel,hat,hsp,_⟩
 .grind
 .cases hv;have ha:=hok a len cap rfl;obtain ⟨rows,vs,k1,k2,k3,k4,k5,k6⟩:=lQ_ (enc:=enc) (base:=base) (spare:=λ_=>true) (held:=held) (w:=w) (P:=P) (ha:=ha) (a:=a) (ps:=ps) (n:=n) hf len 0 (λi hi=>by
   have:=hat i hi;rw [List.getElem?_eq_getElem (by omega)]at this;obtain ⟨cs',h1,h2⟩:=Option.bind_eq_some_iff.1 this
   grind) (λj hj=>by
   refine hps _ ?_;simp only [List.mem_append];left;refine MemPlace.mem_row.2 ⟨j,?_,by simp⟩
   grind)
  refine .inr ⟨rows,k2,by omega,k3,?_⟩;obtain ⟨ab,ao,as'⟩:=a;subst ha;refine ⟨ab,ao,vs,cap,.inl (by rw [k1]),by omega,(okL_con k3 (k5 _)),λj u hu=>?_⟩;have:=k6 j u hu;rw [Nat.zero_mul,Nat.add_zero]at this;exact this
where
 okL_con {E:Env}:∀{as:List AV} {vs:List Value},okL as=true->Con0L E as vs->ConL E as vs
  |[],vs,_,h=>h
  |a::as,vs,h,hc=>by obtain ⟨v,r,rfl,h1,h2⟩:=hc;rw [a0_]at h;exact ⟨v,r,rfl,h1.con,okL_con (aa_ h).2 h2⟩
end
section
variable {P:Program} {t:TypeId} {r:List AV}
theorem ue_ {k:IntKind} (ht:P.underlying t=some (.int k)) (h:Fit P t r):∃n,r=[.int k n]/\(Lit.int k n).wf=true:=by cases h<;>grind
theorem ud_ {k:FloatKind} (ht:P.underlying t=some (.float k)) (h:Fit P t r):∃n,r=[.flt k n]/\(Lit.float k n).wf=true:=by cases h<;>grind
theorem iR_ {fs:Array Field} (ht:P.underlying t=some (.struct fs)) (h:Fit P t r):∃parts:List (List AV),r=parts.flatten/\parts.length=fs.size/\∀(i:Nat) (f:Field) (p:List AV),fs[i]? =some f->parts[i]? =some p->Fit P f.type p:=by cases h<;>grind
end
section
variable {H:Type} {enc:TypeId×Value->H} {P:Program} {W:World}
theorem vo_ {t e:TypeId} {d base:Nat} {v:Value} {dd:DataW H} {p ps:List MemPlace} (ht:P.underlying t=some (.slice e)) (hf:eL_ P d e=true) (hok:Value.okWide P W .any base t v)
  (h:DataW.Trod enc P W 0 (λ_=>true) true t v dd p) (hps:∀q,q∈p->q∈ps):
  v=.slice none 0 0\/∃rows:List (List AV),(∀r,r∈rows->Fit P e r)/\rows.length<=maxLen/\okL rows.flatten=true/\Con (fI_ (ew_ W ps)) (.vsl rows.length (P.cellsOf e) rows.flatten) v:=by
 obtain ⟨a,len,cap,rfl⟩:=okWide_slice ht hok;obtain ⟨n,hn⟩:=h;refine nq_ (x:=(dd,p)) ht hf (λa' l c e=>?_) hn hps;cases e;simp only [Value.okWide,ht,Cell.okWide,Cell.ok]at hok;exact hok.2.2.2.1
end
def et_ (P:Program):Nat->TypeId->Bool
 |0,_=>false
 |d+1,t=>match P.underlying t with
  |some .bool=>true
  |some (.int _)=>true
  |some (.float _)=>true
  |some .string=>true
  |some (.slice e)=>Nat.blt 0 (P.cellsOf e)&&et_ P d e
  |some (.struct fs)=>fs.toList.all λf=>et_ P d f.type
  |some (.array _ e)=>et_ P d e
  |_=>false
section
variable {H:Type} {enc:TypeId×Value->H} {P:Program} {w:World} {base:Nat} {held:Bool} {sp:Nat->Bool}
theorem ny_ {d:Nat} {t:TypeId} (hw:et_ P (d+1) t=true) {r r':TypeId->List Value->Option (DataW H×List MemPlace)}
  (hr:∀t cs x,et_ P d t=true->r t cs=some x->(∀p∈x.2,sp p.block=true)->r' t cs=some x) {cs:List Value} {x:DataW H×List MemPlace}
  (h:DataW.trodStep enc P w base (λ_=>true) held r t cs=some x) (hs:∀p∈x.2,sp p.block=true):DataW.trodStep enc P w base sp held r' t cs=some x:=by
 unfold DataW.trodStep at h⊢;split at h
 case h_8 e a len cap ht=>
  unfold et_ at hw;rw [ht]at hw;simp only [Bool.and_eq_true]at hw;obtain ⟨hz,hwe⟩:=hw;have hz:0<P.cellsOf e:=(by simp_all);split at h
  .rename_i hc;rw [if_pos hc];simp only [Option.map_eq_some_iff,Option.bind_eq_some_iff]at h⊢;obtain ⟨elems,he,rest,hrest,rfl⟩:=h;have one:∀(i:Nat) (y:DataW H×List MemPlace),y∈elems++rest->
     (w.cells? base (a.add (i*P.cellsOf e)) (P.cellsOf e)).bind (r e)=some y->(w.cells? base (a.add (i*P.cellsOf e)) (P.cellsOf e)).bind (r' e)=some y:=by
    grind [Option.bind_eq_some_iff]
   refine ⟨elems,mapM_carry he (λi y hi hy=>one i y (by simp [hy])),rest,?_,rfl⟩;have hrl:rest.length=cap-len:=(by simpa using mapM_some_length hrest);cases hrl0:cap-len with
   |zero=>
    grind
   |succ m=>
    have hsa:sp a.block=true:=by refine hs (.cell a.block (a.off+0)) ?_;simp only [List.mem_append];left;refine MemPlace.mem_row.2 ⟨0,Nat.mul_pos (by omega) hz,rfl⟩
    grind [mapM_carry]
  cases h
 case h_9 fs _ _ ht=>
  unfold et_ at hw;rw [ht]at hw;simp only [List.all_eq_true]at hw;split at h;rename_i hc;rw [if_pos hc];simp only [Option.map_eq_some_iff]at h⊢;obtain ⟨xs,hx,rfl⟩:=h;exact ⟨xs,mapM_carry hx (λf y hf hy hv=>hr _ _ _ (hw f hf) hv (λp hp=>hs p (List.mem_flatMap.2 ⟨y,hy,hp⟩))),rfl⟩;cases h
 case h_10 n e _ _ ht=>
  unfold et_ at hw;rw [ht]at hw;split at h;rename_i hc;rw [if_pos hc];simp only [Option.map_eq_some_iff]at h⊢;obtain ⟨xs,hx,rfl⟩:=h;exact ⟨xs,mapM_carry hx (λf y _ hy hv=>hr _ _ _ hw hv (λp hp=>hs p (List.mem_flatMap.2 ⟨y,hy,hp⟩))),rfl⟩;cases h
 all_goals grind [et_]
theorem tR_:∀(n d:Nat) (t:TypeId) (cs:List Value) (x:DataW H×List MemPlace),et_ P d t=true->
  DataW.trod enc P w base (λ_=>true) held n t cs=some x->(∀p∈x.2,sp p.block=true)->DataW.trod enc P w base sp held n t cs=some x:=by
 intro n
 induction n with
 |zero=>simp [DataW.trod]
 |succ n ih=>intro d t cs x hw h hs;cases d<;>grind [et_,DataW.trod_step,ny_]
theorem lT_ {W W':World} (h:GrownB W W') {p:MemPlace} (hp:p.block<W.heap.size):W.sameAt W' p:=by
 obtain ⟨⟨_,_,hk⟩,_,hs⟩:=h;have hb:=hk p.block hp;cases p with
 |cell b off=>
  simp only [MemPlace.block]at hp hb;show W'.cell? ⟨b,off,none⟩=W.cell? ⟨b,off,none⟩;unfold World.cell?
  grind
 |map b=>
  simp only [MemPlace.block]at hp hb;show W'.heap[b]? =W.heap[b]?;obtain ⟨o1,h1⟩:∃o,W.heap[b]? =some o:=⟨W.heap[b],Array.getElem?_eq_getElem hp⟩;obtain ⟨o2,h2⟩:∃o,W'.heap[b]? =some o:=⟨W'.heap[b]'(by omega),Array.getElem?_eq_getElem (by omega)⟩;rw [h1,h2]at hb;rw [h1,h2];cases o1 with
  |cells c t fr=>
   cases o2 with
   |cells c' t' fr'=>obtain ⟨rfl,rfl,_,hc⟩:=hb;have:c'=c:=Array.ext_getElem? λj=>hc j (λh=>h);rw [this]
   |_=>cases hb
  |map es cl=>
   grind
  |_=>omega
theorem trodAll_again {d:Nat} {W W':World} (hg:GrownB W W'):∀{ts:List TypeId} {vs:List Value} {ds:List (DataW H)} {ps:List MemPlace},(ts.all λt=>et_ P d t)=true->
  DataW.TrodAll enc P W 0 (λ_=>true) held ts vs ds ps->(∀p∈ps,p.block<W.heap.size)->(∀p∈ps,sp p.block=true)->DataW.TrodAll enc P W' 0 sp held ts vs ds ps
 |[],[],[],_,_,h,_,_=>h
 |t::ts,v::vs,dd::ds,_,hw,⟨p,q,⟨n,h1⟩,h2,rfl⟩,hlt,hsp=>by
  simp only [List.all_cons,Bool.and_eq_true]at hw;refine ⟨p,q,⟨n,?_⟩,trodAll_again hg hw.2 h2 (λx hx=>hlt x (by simp [hx])) (λx hx=>hsp x (by simp [hx])),rfl⟩
  grind [DataW.trod_carry,tR_,lT_]
end
variable [Gl]
end Go.Sx
