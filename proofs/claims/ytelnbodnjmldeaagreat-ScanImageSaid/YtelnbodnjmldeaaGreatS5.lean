/-
  Why instructions may not be: the program's word.
-/
import Derived.Test.YtelnbodnjmldeaaGreatYK
import Derived.Test.YtelnbodnjmldeaaGreatFA
import Derived.Test.YtelnbodnjmldeaaGreatWI
import Derived.Test.YtelnbodnjmldeaaGreatXB
import Derived.KernelRfl
set_option linter.all false
set_option maxHeartbeats 1000000
set_option maxRecDepth 100000
open Nat renaming zero_le→za'
open List renaming mem_cons_self→zb',mem_cons_of_mem→zc'
open Int renaming natCast_nonneg→zd',toNat_of_nonneg→ze'
namespace Go.Proofs.YtelnbodnjmldeaaGreat.vars
open Go Go.Sx
def DR (l:List GI):Prop:=0<l.length/\l.length<=400/\(∀g∈l,g.May)/\∀h:l.length-1<l.length,l[l.length-1].op=23
def DR.form {l:List GI} {cells:Int} (h:DR l) (hp:∀g∈l,g.Plc l.length cells):D8 l cells:=⟨h.1,h.2.1,h.2.2.1,h.2.2.2,hp⟩
structure MJ (l:List GI) (cells e:Int):Prop where
 a:¬DR l->e=2
 b:DR l->(¬∀g∈l,g.Plc l.length cells)->e=6
 c:D8 l cells->(t_ l).Full->e=12
 d:D8 l cells->¬(t_ l).Full->(t_ l).Two->e=4
 f:D8 l cells->¬(t_ l).Full->¬(t_ l).Two->e=0
theorem D8.a {l:List GI} {cells:Int} (h:D8 l cells):DR l:=⟨h.n1,h.n4,h.may,h.last⟩
def w9 (x:GI) (r:List AV):(XOp.faddr 68 0).run Tryz.prog [.vptr (n_ x++r)]=some (.vptr (.int .i64 x.op::([.int .i64 x.kd,.int .i64 x.ad,.int .i64 x.n,.int .i64 x.vk,.int .i64 x.vi,.flt .f64 x.vf]++r))):=by kernel_rfl
def gp (a:List AV) (ha:Ak a=true) (l:List GI):Ak (a++Ay n_ l)=true:=A5.okL_join ha (A5 Cx l)
def xB {l:List GI} {i:Nat} (h:i<l.length):Ay n_ (l.drop i)=n_ l[i]++Ay n_ (l.drop (i+1)):=by rw [Cc h];rfl
def iaJ {l:List GI} {x:AV} (hx:SlV n_ 7 l x) {i:Nat} (h:i<l.length):(XOp.iaddr 30).run Tryz.prog [x,.int .i64 (i:Int)]=some (.vptr (n_ l[i]++Ay n_ (l.drop (i+1)))):=by rw [←xB h];exact PR hx h
def okJ (g:GI) (l:List GI):okC (.vptr (n_ g++Ay n_ l))=true:=gp _ (Cx g) l
def I9_ (x:Int) (r:List AV):(XOp.load 3).run Tryz.prog [.vptr (.int .i64 x::r)]=some (.int .i64 x):=NN Tryz.underlying3 rfl _ _
def nM {p:Prop} {i:Decidable p} (h: @decide p i=true):p:= @of_decide_eq_true p i h
def Wy {p:Prop} {i:Decidable p} (h: @decide p i=false):¬p:= @of_decide_eq_false p i h
def p30 {l:List GI} {x:AV} (hx:SlV n_ 7 l x) (hl:l.length<=1000000) {cells e:Int} (hv:MJ l cells e):AQ 30 [x,.int .i64 cells] (.int .i64 e):=by
 have okx:=hx.ok Cx;refine MI (sh:=[none,none]) (ls:=[x,.int .i64 cells]) (c:=c30) (n:=300) (t:=cZ) mo ov (by rcases hx with rfl|⟨_,rfl⟩<;>rfl) (by simp only [Ak,okC,okx]) rfl (λY _=>Ck _) rfl (by kernel_rfl) λY hf hg'=>?_;unfold cZ;refine Aa (OO hx) rfl (Aa (Aw ..) rfl (AC rfl (λh0=>As (iK (hv.a ?_)).symm) (λh0=>?_)));rintro ⟨h1,_⟩;have h0:(l.length:Int)=0:=dT h0;omega;have h0:¬(l.length:Int)=0:=dF h0;refine Aa (OO hx) rfl (Aa (BF ..) rfl (AC rfl (λh4=>As (iK (hv.a ?_)).symm) (λh4=>?_)));rintro ⟨_,h1,_⟩;have h4:(400:Int)<(l.length:Int):=dT h4;omega;have h4:¬(400:Int)<(l.length:Int):=dF h4;refine Ar (C1 hx hl) rfl (by simp only [Ak,okC,V_,okx]) (AC rfl (λhm=>As (iK (hv.a ?_)).symm) (λhm=>?_));rintro ⟨_,_,h1,_⟩;exact dT hm h1;have hm:∀g∈l,g.May:=Classical.not_not.1 (dF hm);have hl1:l.length-1<l.length:=by omega
 have em:IntKind.i64.wrap ((l.length:Int)-1)=((l.length-1:Nat):Int):=by rw [DU (by omega) (by omega)];omega
 refine Aa (OO hx) rfl (Aa (r:=.int .i64 ((l.length-1:Nat):Int)) (by rw [←em];exact Bu ..) rfl (Aa (iaJ hx hl1) (okJ _ _) (Aa (w9 ..) (gp _ rfl _) (Aa (I9_ ..) rfl (Aa (Av ..) rfl (AC rfl (λh23=>As (iK (hv.a ?_)).symm) (λh23=>?_)))))));rintro ⟨_,_,_,h1⟩;have h23:(!decide (l[l.length-1].op=23))=true:=h23;rw [h1 hl1]at h23;cases h23;have h23:(!decide (l[l.length-1].op=23))=false:=h23;have hA:DR l:=⟨by omega,by omega,hm,λ_=>by simpa using h23⟩;refine Ar (C2 hx hl hm cells) rfl (by simp only [Ak,okC,V_,okx]) (AC rfl (λhp=>As (iK (hv.b hA (dT hp))).symm) (λhp=>?_));have hp:∀g∈l,g.Plc l.length cells:=Classical.not_not.1 (dF hp);have hF:=hA.form hp;refine Ar (p66 hF hx) rfl (by simp only [Ak,okC,okx]) (AC rfl (λh1=>As (iK (hv.c hF (nM h1))).symm) (λh1=>AC rfl (λh2=>As (iK (hv.d hF (Wy h1) (nM h2))).symm) (λh2=>As (iK (hv.f hF (Wy h1) (Wy h2))).symm)))
def Cd (l:List GI) (p:Nat) (c:List GI):Prop:=∃a b,l=a++(c++b)/\a.length=p
section
variable {l:List GI}
def Cd.fst {p:Nat} {c c':List GI} (h:Cd l p (c++c')):Cd l p c:=by obtain ⟨a,b,rfl,rfl⟩:=h;exact ⟨a,c'++b,by rw [List.append_assoc],rfl⟩
def Cd.snd {p:Nat} {c c':List GI} (h:Cd l p (c++c')):Cd l (p+c.length) c':=by obtain ⟨a,b,rfl,rfl⟩:=h;exact ⟨a++c,b,by simp only [Be],by rw [List.length_append]⟩
def Cd.at {p:Nat} {i:GI} {r:List GI} (h:Cd l p (i::r)):l[p]? =some i:=by obtain ⟨a,b,rfl,rfl⟩:=h;simp
def Rn (p:Nat) (st mem:List FV) (us now:Int):MS:=⟨(p:Int),st,mem,us,now,false,0⟩
def VW (p:Nat) (st mem:List FV) (us now:Int):¬Ew (Rn p st mem us now):=by rintro (h|h);cases h;exact h rfl
def MP {p:Nat} {i:GI} (h:l[p]? =some i) {rest inn mem:List FV} {us now:Int} (hl:inn.length=j_ i):e_ l (Rn p (rest++inn) mem us now)=CD i (Rn p (rest++inn) mem us now) rest inn:=by
 unfold e_;rw [Ab (show ¬((Rn p (rest++inn) mem us now).over=true\/(Rn p (rest++inn) mem us now).err≠0) from VW p (rest++inn) mem us now)];have hi:Lz l (Rn p (rest++inn) mem us now)=i:=by unfold Lz;show l.getD ((p:Int).toNat) _=i;rw [Int.toNat_natCast,List.getD_eq_getElem?_getD,h];rfl
 rw [hi];show CD i _ ((rest++inn).take ((rest++inn).length-j_ i)) ((rest++inn).drop ((rest++inn).length-j_ i))=_;rw [←hl,List.length_append,Nat.add_sub_cancel,List.take_left,List.drop_left]
def CQ (l:List GI) (m:MS) (e:Int) (mem:List FV):Prop:=∃n,¬Ew (Bq l n m)/\(Bq l (n+1) m).err=e/\(Bq l (n+1) m).over=false/\(Bq l (n+1) m).mem=mem
def CQ.on {m m':MS} {k:Nat} {e:Int} {mem:List FV} (h:Bq l k m=m') (he:CQ l m' e mem):CQ l m e mem:=by obtain ⟨n,h1,h2⟩:=he;subst h;rw [←Nv]at h1;rw [←Nv,←Nat.add_assoc]at h2;exact ⟨k+n,h1,h2⟩
theorem CQ.one {p:Nat} {st mem:List FV} {us now e:Int} (h:e_ l (Rn p st mem us now)=⟨(p:Int),st,mem,us+1,now,false,e⟩):CQ l (Rn p st mem us now) e mem:=by refine ⟨0,VW _ _ _ _ _,?_⟩;show (e_ l (Rn p st mem us now)).err=e/\(e_ l (Rn p st mem us now)).over=false/\(e_ l (Rn p st mem us now)).mem=mem;rw [h];exact ⟨rfl,rfl,rfl⟩
def kK (l:List GI) (c:List GI) (p:Nat) (st mem:List FV) (us now:Int):Except Int (List FV)->Prop
 | .ok vs=>Bq l c.length (Rn p st mem us now)=Rn (p+c.length) (st++vs) mem (us+(c.length:Int)) now
 | .error e=>CQ l (Rn p st mem us now) e mem
def zb:Except Int FV->Except Int (List FV)
 | .ok v=>.ok [v]
 | .error e=>.error e
theorem Tp {mem:List FV}:∀{ag:List GX} {vs:List FV},u_ mem ag=.ok vs->vs.length=ag.length
 |[],vs,h=>by simp only [u_]at h;cases h;rfl
 |a::r,vs,h=>by simp only [u_]at h;split at h;cases h;split at h;cases h;rename_i w hw;cases h;simp only [List.length_cons,Tp hw]
def Om {k j:Nat} {p:Nat} {st mem:List FV} {us now:Int} {m:MS} (h:Bq l k m=Rn p st mem us now):Bq l (k+j) m=Bq l j (Rn p st mem us now):=by rw [Nv,h]
def gh {p:Nat} {i:GI} {rest inn mem:List FV} {us now:Int} (h:l[p]? =some i) (h17:i.op<=17) (hl:inn.length=j_ i):e_ l (Rn p (rest++inn) mem us now)=(match EO i mem (inn.headD FV.z) (inn.getLastD FV.z)with
  | .error e=>⟨(p:Int),rest++inn,mem,us+1,now,false,e⟩
  | .ok v=>Rn (p+1) (rest++[v]) mem (us+1) now):=by
 rw [MP h hl];unfold CD;rw [Ad h17];show (match EO i mem (inn.headD FV.z) (inn.getLastD FV.z)with
  | .error e=>JK _ e
  | .ok v=>Er _ _ _ _)=_
 cases EO i mem (inn.headD FV.z) (inn.getLastD FV.z)with
 |error e=>rfl
 |ok v=>rfl
def zP {op kd ad n vk vi:Int} {vf:Nat} {ag:List GX} (h:Cz op ag.length):j_ (F_ op kd ad n vk vi vf ag)=ag.length/\(F_ op kd ad n vk vi vf ag).op<=17:=by
 unfold Cz at h;unfold F_;split;rename_i e;subst e;exact ⟨(by show 0=_;omega),(by show (1:Int)<=17;decide)⟩;split;rename_i e;subst e;exact ⟨(by show 0=_;omega),(by show (2:Int)<=17;decide)⟩;split;rename_i e;subst e;exact ⟨(by show 1=_;omega),(by show (3:Int)<=17;decide)⟩;split;rename_i e;subst e;exact ⟨(by show 1=_;omega),(by show (17:Int)<=17;decide)⟩
 .refine ⟨?_,by show op<=17;omega⟩;unfold j_;show (if op=1\/op=2\/op=20\/op=23 then 0 else if op=3\/op=15\/op=16\/op=17\/op=18\/op=21 then 1 else if op=22 then _ else 2)=_
  (repeat' split)<;>omega
def BH_ {mem:List FV} {op kd ad n vk vi:Int} {vf:Nat} {ag:List GX} (h:Cz op ag.length) (h1:op≠1) (h2:op≠2) (a b:FV):EO (F_ op kd ad n vk vi vf ag) mem a b=D5 mem op kd ad n a b:=by
 unfold F_;rw [Ab h1,Ab h2];split;rename_i e;subst e;unfold EO D5;rfl;split;rename_i e;subst e;unfold EO D5;rfl
 .rename_i h3 h17;unfold EO D5;show (if op=1 then _ else if op=2 then _ else if op=3 then _ else if op=17 then _ else _)=_;rw [Ab h1,Ab h2,Ab h3,Ab h17,Ab h3,Ab h17]<;>rfl
mutual
theorem Vk:∀(x:GX) (d:Nat),TX d x->∀(p:Nat) (st mem:List FV) (us now:Int),Cd l p (c_ x)->kK l (c_ x) p st mem us now (zb (o_ mem x))
 | .mk op kd nm fd ad n vk vi vf ag,0,h,_,_,_,_,_,_=>h.elim
 | .mk op kd nm fd ad n vk vi vf ag,d+1,h,p,st,mem,us,now,hc=>by
   simp only [c_]at hc⊢;obtain ⟨q1,q2⟩:=zP (kd:=kd) (ad:=ad) (n:=n) (vk:=vk) (vi:=vi) (vf:=vf) h.1;have ih:=Sq ag d h.2.2.2.2.2 p st mem us now hc.fst;have hat:=hc.snd.at;by_cases h12:op=1\/op=2;have h0:ag=[]:=List.length_eq_zero_iff.1 (by have:=h.1;unfold Cz at this;omega);subst h0;have hstep:=gh (rest:=st) (inn:=[]) (mem:=mem) (us:=us) (now:=now) hat q2 q1.symm;rw [List.append_nil]at hstep;rcases h12 with rfl|rfl;show Bq l 1 (Rn p st mem us now)=Rn (p+1) (st++[⟨vk,vi,some vf⟩]) mem (us+((1:Nat):Int)) now;exact hstep;show Bq l 1 (Rn p st mem us now)=Rn (p+1) (st++[cell mem ad]) mem (us+((1:Nat):Int)) now;exact hstep;have h1:op≠1:=λe=>h12 (.inl e);have h2:op≠2:=λe=>h12 (.inr e);simp only [o_];rw [Ab h1,Ab h2];cases hE:u_ mem ag with
   |error e=>rw [hE]at ih;exact ih
   |ok vs=>
    rw [hE]at ih;have ih:Bq l (g_ ag).length (Rn p st mem us now)=Rn (p+(g_ ag).length) (st++vs) mem (us+((g_ ag).length:Int)) now:=ih;have hstep:=gh (rest:=st) (inn:=vs) (mem:=mem) (us:=us+((g_ ag).length:Int)) (now:=now) hat q2 ((Tp hE).trans q1.symm);rw [BH_ h.1 h1 h2]at hstep;simp only;cases hm:D5 mem op kd ad n (vs.headD FV.z) (vs.getLastD FV.z)with
    |error e=>rw [hm]at hstep;exact CQ.on ih (CQ.one hstep)
    |ok v=>rw [hm]at hstep;show Bq l (g_ ag++[_]).length _=Rn (p+(g_ ag++[_]).length) (st++[v]) mem (us+((g_ ag++[_]).length:Int)) now;rw [List.length_append,List.length_singleton,Om ih];have:us+(((g_ ag).length+1:Nat):Int)=us+((g_ ag).length:Int)+1:=(by omega);rw [this];exact hstep
theorem Sq:∀(ag:List GX) (d:Nat),(∀a∈ag,TX d a)->∀(p:Nat) (st mem:List FV) (us now:Int),Cd l p (g_ ag)->kK l (g_ ag) p st mem us now (u_ mem ag)
 |[],d,_,p,st,mem,us,now,_=>by show Bq l 0 (Rn p st mem us now)=Rn (p+0) (st++[]) mem (us+((0:Nat):Int)) now;rw [List.append_nil];show Rn p st mem us now=Rn p st mem (us+((0:Nat):Int)) now;rw [show us+((0:Nat):Int)=us by omega]
 |a::r,d,h,p,st,mem,us,now,hc=>by
  simp only [g_]at hc⊢;have h1:=Vk a d (h a zb') p st mem us now hc.fst;simp only [u_];cases hE:o_ mem a with
  |error e=>rw [hE]at h1;exact h1
  |ok v=>
   rw [hE]at h1;have h1:Bq l (c_ a).length (Rn p st mem us now)=Rn (p+(c_ a).length) (st++[v]) mem (us+((c_ a).length:Int)) now:=h1;have h2:=Sq r d (λx hx=>h x (zc' _ hx)) (p+(c_ a).length) (st++[v]) mem (us+((c_ a).length:Int)) now hc.snd;simp only;cases hL:u_ mem r with
   |error e=>rw [hL]at h2;exact CQ.on h1 h2
   |ok vs=>rw [hL]at h2;have h2:Bq l (g_ r).length _=_:=h2;show Bq l (c_ a++g_ r).length _=Rn (p+(c_ a++g_ r).length) (st++(v::vs)) mem (us+((c_ a++g_ r).length:Int)) now;rw [List.length_append,Om h1,h2,List.append_assoc,Nat.add_assoc];rw [show us+(((c_ a).length+(g_ r).length:Nat):Int)=us+((c_ a).length:Int)+((g_ r).length:Int) by omega];rfl
end
def A4 (l:List GI) (m:MS) (p':Nat) (left:Int) (r:Dw):Prop:=
 (r.e=0->∃n:Nat,2*(left-r.left)<=n/\Bq l n m=Rn p' [] r.mem (m.used+n) m.now)/\(r.e=8->∃n:Nat,2*left<=n/\¬Ew (Bq l n m))/\(r.e≠0->r.e≠8->CQ l m r.e r.mem)
def A4.pre {b b' p':Nat} {mem mem':List FV} {us now left left':Int} {r:Dw} {k:Nat} (h:Bq l k (Rn b [] mem us now)=Rn b' [] mem' (us+k) now) (hk:2*(left-left')<=k) (hs:A4 l (Rn b' [] mem' (us+k) now) p' left' r):A4 l (Rn b [] mem us now) p' left r:=by obtain ⟨h1,h2,h3⟩:=hs;refine ⟨λe=>?_,λe=>?_,λe e'=>CQ.on h (h3 e e')⟩;obtain ⟨n,q1,q2⟩:=h1 e;refine ⟨k+n,by omega,?_⟩;rw [Om h,q2];show Rn p' [] r.mem (us+k+n) now=Rn p' [] r.mem (us+((k+n:Nat):Int)) now;rw [show us+(k:Int)+(n:Int)=us+((k+n:Nat):Int) by omega];obtain ⟨n,q1,q2⟩:=h2 e;refine ⟨k+n,by omega,?_⟩;rw [Om h];exact q2
def A4.err {b p':Nat} {mem mem':List FV} {us now left e:Int} {left':Int} (h:CQ l (Rn b [] mem us now) e mem') (he:e=5\/e=6\/e=7):A4 l (Rn b [] mem us now) p' left ⟨mem',left',e⟩:=
 ⟨λh=>by have h:e=0:=h;omega,λh=>by have h:e=8:=h;omega,λ_ _=>h⟩
def A4.fin {b p':Nat} {mem mem':List FV} {us now left:Int} {k:Nat} (h:Bq l k (Rn b [] mem us now)=Rn p' [] mem' (us+k) now):A4 l (Rn b [] mem us now) p' left ⟨mem',left,0⟩:=
 ⟨λ_=>⟨k,by show 2*(left-left)<=_;omega,h⟩,(λh=>by cases h),(λh=>absurd rfl h)⟩
def A4.seq {b b' p':Nat} {mem:List FV} {us now left:Int} {r:Dw} {q:List FV->Int->Dw} (h:A4 l (Rn b [] mem us now) b' left r) (hq:r.e=0->∀us',A4 l (Rn b' [] r.mem us' now) p' r.left (q r.mem r.left)):A4 l (Rn b [] mem us now) p' left (if r.e=0 then q r.mem r.left else r):=by split;rename_i e;obtain ⟨n,q1,q2⟩:=h.1 e;exact A4.pre (k:=n) q2 q1 (hq e _);rename_i e;exact ⟨λh=>absurd h e,h.2.1,h.2.2⟩
def L8 {k:Nat} {p q:Nat} {st st' mem mem':List FV} {us now:Int} {m:MS} (h:Bq l k m=Rn p st mem (us+k) now) (hs:e_ l (Rn p st mem (us+k) now)=Rn q st' mem' (us+k+1) now):Bq l (k+1) m=Rn q st' mem' (us+((k+1:Nat):Int)) now:=by rw [Om h];show e_ l (Rn p st mem (us+(k:Int)) now)=_;rw [hs,show us+(k:Int)+1=us+((k+1:Nat):Int) by omega]
def zI {to e:GX} {d d':Nat} (he:TX d e) (ht:TX d' to) (hw:to.op=2\/to.op=3) {b:Nat} {mem:List FV} {us now left:Int} (hc:Cd l b (c_ e++Ey to)):A4 l (Rn b [] mem us now) (b+(c_ e++Ey to).length) left (FF to e mem left):=by
 have h1:=Vk (l:=l) e d he b [] mem us now hc.fst;have hc2:=hc.snd;unfold FF;cases hE:o_ mem e with
 |error er=>rw [hE]at h1;exact A4.err h1 (y_ e er hE)
 |ok v=>
  rw [hE]at h1;have h1:Bq l (c_ e).length (Rn b [] mem us now)=Rn (b+(c_ e).length) [v] mem (us+((c_ e).length:Int)) now:=h1;simp only;obtain ⟨op,kd,nm,fd,ad,n,vk,vi,vf,ag⟩:=to
  match d',ht with
  |0,ht=>exact ht.elim
  |d'+1,ht=>
  by_cases h3:op=3
  .rw [Ad (show (GX.mk op kd nm fd ad n vk vi vf ag).op=3 from h3)];subst h3;simp only [Ey,Ad,Ip]at hc2⊢;have h2:=Sq (l:=l) ag d' ht.2.2.2.2.2 (b+(c_ e).length) [v] mem (us+((c_ e).length:Int)) now hc2.fst;cases hL:u_ mem ag with
   |error er=>rw [hL]at h2;exact A4.err (CQ.on h1 h2) (OA ag er hL)
   |ok vs=>
    rw [hL]at h2;have h2:Bq l (g_ ag).length _=Rn _ ([v]++vs) mem _ now:=h2;have hlen:vs.length=1:=(by rw [Tp hL];have:=ht.1;unfold Cz at this;omega);obtain ⟨x,rfl⟩:=List.length_eq_one_iff.1 hlen;have h12:Bq l ((c_ e).length+(g_ ag).length) (Rn b [] mem us now)=Rn (b+(c_ e).length+(g_ ag).length) [v,x] mem (us+(((c_ e).length+(g_ ag).length:Nat):Int)) now:=by rw [Om h1,h2,show us+(((c_ e).length+(g_ ag).length:Nat):Int)=us+((c_ e).length:Int)+((g_ ag).length:Int) by omega];rfl
    have hst:=MP (l:=l) (rest:=[]) (inn:=[v,x]) (mem:=mem) (us:=us+(((c_ e).length+(g_ ag).length:Nat):Int)) (now:=now) hc2.snd.at rfl;have hd:CD (l_ 19 0 ad n) (Rn (b+(c_ e).length+(g_ ag).length) [v,x] mem (us+(((c_ e).length+(g_ ag).length:Nat):Int)) now) [] [v,x]=if x.i<0\/n<=x.i then JK (Rn (b+(c_ e).length+(g_ ag).length) [v,x] mem (us+(((c_ e).length+(g_ ag).length:Nat):Int)) now) 6 else Er (Rn (b+(c_ e).length+(g_ ag).length) [v,x] mem (us+(((c_ e).length+(g_ ag).length:Nat):Int)) now) (((b+(c_ e).length+(g_ ag).length:Nat):Int)+1) [] (mem.set (ad+x.i).toNat v):=rfl
    rw [List.nil_append,hd]at hst;by_cases hr:x.i<0\/n<=x.i;rw [Ad hr]at hst;simp only;rw [Ad (show ([x].headD FV.z).i<0\/n<=([x].headD FV.z).i from hr)];exact A4.err (CQ.on h12 (CQ.one hst)) (.inr (.inl rfl));rw [Ab hr]at hst;simp only;rw [Ab (show ¬(([x].headD FV.z).i<0\/n<=([x].headD FV.z).i) from hr)];have h3:=L8 h12 (q:=b+(c_ e).length+(g_ ag).length+1) (st':=[]) (mem':=mem.set (ad+x.i).toNat v) hst;have:=A4.fin (left:=left) h3;simp only [Ax,B8];rw [show b+((c_ e).length+((g_ ag).length+1))=b+(c_ e).length+(g_ ag).length+1 by omega];exact this
  rw [Ab (show ¬(GX.mk op kd nm fd ad n vk vi vf ag).op=3 from h3)];simp only [Ey,Ab h3]at hc2⊢;have hst:=MP (l:=l) (rest:=[]) (inn:=[v]) (mem:=mem) (us:=us+((c_ e).length:Int)) (now:=now) hc2.at rfl;have h3:=L8 h1 (q:=b+(c_ e).length+1) (st':=[]) (mem':=mem.set ad.toNat v) hst;have:=A4.fin (left:=left) h3;simp only [Ax,B8];rw [show b+((c_ e).length+1)=b+(c_ e).length+1 by omega];exact this
def bV {p q:Nat} (h:l[p]? =some (l_ 21 0 (q:Int) 0)) (v:FV) (mem:List FV) (us now:Int):e_ l (Rn p [v] mem us now)=Rn (if v.i=0 then q else p+1) [] mem (us+1) now:=by refine (MP (rest:=[]) (inn:=[v]) h rfl).trans ?_;show Er (Rn p [v] mem us now) (if v.i=0 then (q:Int)else (p:Int)+1) [] mem=_;split;rfl;rfl
def gU {p q:Nat} (h:l[p]? =some (l_ 20 0 (q:Int) 0)) (mem:List FV) (us now:Int):e_ l (Rn p [] mem us now)=Rn q [] mem (us+1) now:=MP (rest:=[]) (inn:=[]) h rfl
def A4.jump {m:MS} {b' p':Nat} {left:Int} {r:Dw} (h:A4 l m b' left r) (hj:∀us,e_ l (Rn b' [] r.mem us m.now)=Rn p' [] r.mem (us+1) m.now):A4 l m p' left r:=by refine ⟨λe=>?_,h.2.1,h.2.2⟩;obtain ⟨n,q1,q2⟩:=h.1 e;exact ⟨n+1,by omega,L8 q2 (hj _)⟩
def VO {now:Int} {f:GS->List FV->Int->Dw}:∀(x:List GS),(∀s∈x,∀(b:Nat) (mem:List FV) (us left:Int),Aj mem->0<=left->Cd l b (w_ b s)->A4 l (Rn b [] mem us now) (b+(w_ b s).length) left (f s mem left))->
  (∀s∈x,∀mem left,Aj mem->0<=left->BB mem left (f s mem left))->∀(b:Nat) (mem:List FV) (us left:Int),Aj mem->0<=left->Cd l b (h_ b x)->A4 l (Rn b [] mem us now) (b+(h_ b x).length) left (Di f x mem left)
 |[],_,_,b,mem,us,left,_,_,_=>by refine A4.fin (k:=0) ?_;show Rn b [] mem us now=Rn b [] mem (us+((0:Nat):Int)) now;rw [show us+((0:Nat):Int)=us by omega]
 |s::r,hf,hk,b,mem,us,left,hm,hl,hc=>by simp only [h_,Di]at hc⊢;have k1:=hk s zb' mem left hm hl;refine A4.seq (q:=Di f r) (hf s zb' b mem us left hm hl hc.fst) λe us'=>?_;have:=VO r (λs hs=>hf s (zc' _ hs)) (λs hs=>hk s (zc' _ hs)) (b+(w_ b s).length) (f s mem left).mem us' (f s mem left).left k1.1 (k1.2.2.1 e).1 hc.snd;rw [List.length_append,←Nat.add_assoc];exact this
def vY (x:GX):1<=(c_ x).length:=by cases x;simp [c_]
def dN {now:Int} {body:List FV->Int->Dw} {e:GX} {d:Nat} (he:TX d e) {b q:Nat} {t:List GI} (hc:Cd l b (c_ e++([l_ 21 0 (q:Int) 0]++(t++[l_ 20 0 (b:Int) 0]))))
  (hb:∀(mem:List FV) (us left:Int),Aj mem->0<=left->A4 l (Rn (b+(c_ e).length+1) [] mem us now) (b+(c_ e).length+1+t.length) left (body mem left)) (hk:∀mem left,Aj mem->0<=left->BB mem left (body mem left)):
  ∀(n:Nat) (mem:List FV) (us left:Int),left.toNat<n->0<=left->Aj mem->A4 l (Rn b [] mem us now) q left (Is body (λm=>o_ m e) n mem left)
 |0,_,_,_,h,_,_=>by omega
 |n+1,mem,us,left,hn,hl,hm=>by
  simp only [Is];split;rename_i h0;exact ⟨(λh=>by cases h),λ_=>⟨0,by omega,VW _ _ _ _ _⟩,(λ_ h=>absurd rfl h)⟩;rename_i h0;have h1:=Vk (l:=l) e d he b [] mem us now hc.fst;cases hE:o_ mem e with
  |error er=>rw [hE]at h1;exact A4.err h1 (y_ e er hE)
  |ok v=>rw [hE]at h1;have h1:Bq l (c_ e).length (Rn b [] mem us now)=Rn (b+(c_ e).length) [v] mem (us+((c_ e).length:Int)) now:=h1;have hj:=L8 h1 (bV hc.snd.at v mem _ now);have g1:=vY e;simp only;split;rename_i hv;rw [Ad hv]at hj;exact ⟨λ_=>⟨(c_ e).length+1,by show 2*(left-(left-1))<=_;omega,hj⟩,(λh=>by cases h),(λh=>absurd rfl h)⟩;rename_i hv;rw [Ab hv]at hj;have k1:=hk mem (left-1) hm (by omega);refine A4.pre (k:=(c_ e).length+1) (left':=left-1) hj (by omega) (A4.seq (q:=λm x=>Is body (λm=>o_ m e) n m x) (hb mem _ (left-1) hm (by omega)) λe0 us'=>?_);obtain ⟨k2,k3⟩:=k1.2.2.1 e0;have hat:l[b+(c_ e).length+1+t.length]? =some (l_ 20 0 (b:Int) 0):=(hc.snd.snd.snd).at;refine A4.pre (k:=1) (left':=(body mem (left-1)).left) (b':=b) (mem':=(body mem (left-1)).mem) (gU hat _ us' now) (by omega) ?_;exact dN he hc hb hk n _ _ _ (by omega) k2 k1.1
def j3 {now:Int} (hn: -9223372036854775808<=now/\now<=9223372036854775807):∀(d:Nat) (s:GS),TS d s->∀(b:Nat) (mem:List FV) (us left:Int),Aj mem->0<=left->Cd l b (w_ b s)->A4 l (Rn b [] mem us now) (b+(w_ b s).length) left (R_ now d s mem left)
 |0,_,h,_,_,_,_,_,_,_=>h.elim
 |d+1,.mk op to e thn els nm kd ad ag,h,b,mem,us,left,hm,hl,hc=>by
  have ih:=j3 hn d;have kept:=NO hn d;rcases h with ⟨rfl,a1,a2,a3,a4,_⟩|⟨ho,b1,b2,b3,b4,b5,b6⟩|⟨rfl,c1,c2,_⟩;simp only [w_,R_,Ad]at hc⊢;exact zI a3 a1 (by rcases a2 with ⟨h,_⟩|h;exact .inl h;exact .inr h) hc
  .have sT:=λb mem us left hm hl hc=>VO (l:=l) (now:=now) thn (λs hs=>ih s (b5 s hs)) (λs hs=>kept s (b5 s hs)) b mem us left hm hl hc;have sE:=λb mem us left hm hl hc=>VO (l:=l) (now:=now) els (λs hs=>ih s (b6 s hs)) (λs hs=>kept s (b6 s hs)) b mem us left hm hl hc;rcases ho with rfl|rfl
   .simp only [w_,R_]at hc⊢;rw [Ab (show ¬(2:Int)=1 by decide),Ad trivial]at hc;rw [Ab (show ¬(2:Int)=1 by decide),Ad trivial,Ab (show ¬(2:Int)=1 by decide),Ad trivial];have h1:=λhc=>Vk (l:=l) e 5 b1 b [] mem us now hc;split at hc
    .rename_i hels;subst hels;rw [Ad rfl];rw [List.append_assoc]at hc⊢;have h1:=h1 hc.fst;cases hE:o_ mem e with
     |error er=>rw [hE]at h1;exact A4.err h1 (y_ e er hE)
     |ok v=>
      rw [hE]at h1;have h1:Bq l (c_ e).length (Rn b [] mem us now)=Rn (b+(c_ e).length) [v] mem (us+((c_ e).length:Int)) now:=h1;have hj:=L8 h1 (bV hc.snd.at v mem _ now);have hend:b+(c_ e++([l_ 21 0 ((b+(c_ e).length+1+(h_ (b+(c_ e).length+1) thn).length:Nat):Int) 0]++h_ (b+(c_ e).length+1) thn)).length=b+(c_ e).length+1+(h_ (b+(c_ e).length+1) thn).length:=by simp only [Ax,B8];omega
      rw [hend];simp only;by_cases hv:v.i=0;rw [Ad hv]at hj;rw [Ab (by simp [hv])];exact A4.fin hj;rw [Ab hv]at hj;rw [Ad hv];exact A4.pre (k:=(c_ e).length+1) (left':=left) hj (by omega) (sT _ mem _ left hm hl hc.snd.snd)
    .rename_i hels;rw [Ab hels];simp only [Be]at hc⊢;have h1:=h1 hc.fst;cases hE:o_ mem e with
     |error er=>rw [hE]at h1;exact A4.err h1 (y_ e er hE)
     |ok v=>rw [hE]at h1;have h1:Bq l (c_ e).length (Rn b [] mem us now)=Rn (b+(c_ e).length) [v] mem (us+((c_ e).length:Int)) now:=h1;have hj:=L8 h1 (bV hc.snd.at v mem _ now);have hat:=hc.snd.snd.snd.at;have hq:=hc.snd.snd.snd.snd;simp only [Ax,B8]at hat hq⊢;generalize hT:h_ (b+(c_ e).length+1) thn=T at*;by_cases hv:v.i=0;rw [Ad hv]at hj;rw [Ab (by simp [hv])];refine A4.pre (k:=(c_ e).length+1) (left':=left) hj (by omega) ?_;have:=sE _ mem (us+(((c_ e).length+1:Nat):Int)) left hm hl hq;rw [show ∀z,b+((c_ e).length+(1+(T.length+(1+z))))=b+(c_ e).length+1+T.length+1+z from λz=>by omega];exact this;rw [Ab hv]at hj;rw [Ad hv];refine A4.pre (k:=(c_ e).length+1) (left':=left) hj (by omega) ?_;have:=sT (b+(c_ e).length+1) mem (us+(((c_ e).length+1:Nat):Int)) left hm hl (by rw [hT];exact hc.snd.snd.fst);rw [hT]at this;refine A4.jump this λus=>?_;rw [show ∀z,b+((c_ e).length+(1+(T.length+(1+z))))=b+(c_ e).length+1+T.length+1+z from λz=>by omega];exact gU hat _ us now
   simp only [w_,R_]at hc⊢;rw [Ab (show ¬(3:Int)=1 by decide),Ab (show ¬(3:Int)=2 by decide),Ad trivial]at hc;rw [Ab (show ¬(3:Int)=1 by decide),Ab (show ¬(3:Int)=2 by decide),Ad trivial,Ab (show ¬(3:Int)=1 by decide),Ab (show ¬(3:Int)=2 by decide),Ad trivial];simp only [Be]at hc⊢;have:=dN (l:=l) (now:=now) (body:=Di (R_ now d) thn) b1 hc (λmem us left hm hl=>sT _ mem us left hm hl hc.snd.snd.fst) (λmem left hm hl=>On thn mem left (λs hs=>kept s (b5 s hs)) hm hl) (left.toNat+1) mem us left (by omega) hl hm;simp only [Ax,B8];rw [show ∀z,b+((c_ e).length+(1+(z+1)))=b+(c_ e).length+1+z+1 from λz=>by omega];exact this
  .simp only [w_,R_]at hc⊢;rw [Ab (show ¬(4:Int)=1 by decide),Ab (show ¬(4:Int)=2 by decide),Ab (show ¬(4:Int)=3 by decide)]at hc;rw [Ab (show ¬(4:Int)=1 by decide),Ab (show ¬(4:Int)=2 by decide),Ab (show ¬(4:Int)=3 by decide),Ab (show ¬(4:Int)=1 by decide),Ab (show ¬(4:Int)=2 by decide),Ab (show ¬(4:Int)=3 by decide)];have h1:=Sq (l:=l) ag 5 c2 b [] mem us now hc.fst;unfold Od;cases hL:u_ mem ag with
   |error er=>rw [hL]at h1;exact A4.err h1 (OA ag er hL)
   |ok vs=>rw [hL]at h1;have h1:Bq l (g_ ag).length (Rn b [] mem us now)=Rn (b+(g_ ag).length) vs mem (us+((g_ ag).length:Int)) now:=h1;have hst:=MP (l:=l) (rest:=[]) (inn:=vs) (mem:=mem) (us:=us+((g_ ag).length:Int)) (now:=now) hc.snd.at (by rw [Tp hL];show _=(ag.length:Int).toNat;rw [Int.toNat_natCast]);have h3:=L8 h1 (q:=b+(g_ ag).length+1) (st':=[]) (mem':=A_ now kd mem (decide ((vs.headD FV.z).i≠0)) (vs.tail.headD FV.z).i) hst;have:=A4.fin (left:=left) h3;rw [List.length_append,List.length_singleton,←Nat.add_assoc];exact this
def bR {m:MS} {a b:Nat} (h:a<=b) (hs:Ew (Bq l a m)):Bq l b m=Bq l a m:=by obtain ⟨k,rfl⟩:=Nat.exists_eq_add_of_le h;rw [Nv,bQ hs]
end
def vg:VC:=⟨⟨[],[]⟩,[],[],0,true,[]⟩
def iB:VT:=It (.bin .eql 30 false true) [64,.nsl] 65 (.done (.nsl))<|Li Qs [.vsl 0 7 [],64] 66<|.done (66)
def wH:VC:=⟨⟨[],[]⟩,[],[],0,true,[]⟩
def iR:VT:=It Zj [64,.nsl] 65 (.done (.nsl))<|Li Qe [.vsl 0 3 [],64] 66<|.done (66)
def u7:VC:=⟨⟨[],[]⟩,[(67,[none]),(68,[none]),(42,[none])],[],0,true,[]⟩
def oG:VT:=.call 67 [64] 77 [none]<|.call 68 [65] 78 [none]<|.call 42 [67] 79 [none]<|.call 42 [69] 80 [none]<|.call 42 [70] 81 [none]<|.done (.agg ([77,78,66,79,68,80,81]++Af 71 6))
def Wn:VC:=⟨⟨[],[]⟩,[(28,[none]),(29,[none,none]),(30,[none]),(32,[none]),(31,[(some 13)])],[],0,true,[]⟩
def GN:VT:=.call 28 [64] 68 [none]<|It Q7 [68,J 0] 69 (.done (.tup [.agg [.nsl,.nsl,J 0,.nsl,J 0,.nsl,.nsl,J 0,J 0,.bool false,J 0,J 0,J 0],J 1]))<|It Qa [67,J 1] 70 (.done (.tup [.agg [.nsl,.nsl,J 0,.nsl,J 0,.nsl,.nsl,J 0,J 0,.bool false,J 0,J 0,J 0],J 1]))<|It Qb [67,J 100000] 71 (.done (.tup [.agg [.nsl,.nsl,J 0,.nsl,J 0,.nsl,.nsl,J 0,J 0,.bool false,J 0,J 0,J 0],J 1]))<|.call 29 [64] 72 [none,none]<|.call 30 [66,73] 74 [none]<|It Q7 [74,J 0] 75 (.done (.tup [.agg [.nsl,.nsl,J 0,.nsl,J 0,.nsl,.nsl,J 0,J 0,.bool false,J 0,J 0,J 0],74]))<|.call 32 [64] 76 [none]<|.call 31 [.agg [64,66,67,76,J 0,.nsl,.nsl,J 0,J 0,.bool true,J 0,J 0,J 0]] 77 [(some 13)]<|.done (.tup [.agg (Af 77 13),J 0])
def m0:List FV:=[⟨2,0,some 0⟩,⟨1,0,some 0⟩,⟨2,0,some 0⟩,⟨1,0,some 0⟩,⟨2,5,some 0⟩,⟨3,0,some 0⟩,⟨5,0,some 0⟩,⟨4,0,some 0⟩,⟨2,0,some 0⟩,⟨2,0,some 0⟩,⟨2,0,some 0⟩,⟨2,0,some 0⟩,⟨1,0,some 0⟩,⟨4,0,some 0⟩,⟨1,0,some 0⟩,⟨4,0,some 0⟩,⟨1,0,some 0⟩,⟨2,0,some 0⟩,⟨1,0,some 0⟩,⟨1,0,some 0⟩,⟨1,0,some 0⟩]
def yZ:AQ 28 [VARS] (.int .i64 0):=Cj mo ov (n:=3000) (by kernel_rfl)
def vC:AQ 29 [VARS] (.tup [.vsl 12 1 [.int .i64 0,.int .i64 1,.int .i64 2,.int .i64 3,.int .i64 4,.int .i64 5,.int .i64 6,.int .i64 7,.int .i64 8,.int .i64 12,.int .i64 16,.int .i64 19],.int .i64 21]):=Cj mo ov (n:=3000) (by kernel_rfl)
def sk:AQ 32 [VARS] (b_ m0):=Cj mo ov (n:=3000) (by kernel_rfl)
def qr:AQ 67 [VARS] VARS:=Cj mo ov (n:=3000) (by kernel_rfl)
def Xa {cs:List AV} (h:Ak cs=true):BP (.agg cs)=true:=aR (a:=.agg cs) h
def vA {cs:List AV} {b:AV} (h:Ak cs=true) (hb:okC b=true):BP (.tup [.agg cs,b])=true:=by have h1:=Xa h;have h2:=Mc hb;simp only [BP,Gh,h1,h2];simp_all [BP]
def YA {α:Type} {enc:α->List AV} {w b:Nat} (hw:∀a,(enc a).length=w) (hwp:0<w) (hb:0<b) {l:List α} {x:AV} (h:SlV enc w l x) (hl:l.length*b<=1073741824):(XOp.app w b).run Tryz.prog [.vsl 0 w [],x]=some (BG enc w l):=by
 have ha:DC w x=some (l.length,Ay enc l):=by rcases h with rfl|⟨rfl,rfl⟩;have hl:(Ay enc l).length=l.length*w:=EC hw l;show (match Cu ⟨AD,0,0⟩ (.vsl l.length w (Ay enc l)) l.length w with|some c=>some (l.length,c)|none=>none)=_;have:Cu ⟨AD,0,0⟩ (.vsl l.length w (Ay enc l)) l.length w=some (Ay enc l):=(by show CN (Nat.mul l.length w) _=_;have h:=Lm (Ay enc l) [];rw [List.append_nil,hl]at h;exact h);rw [this];rfl
 show (match DC w x with|some (n,l')=>En w b (.vsl 0 w []) n l'|none=>none)=_;rw [ha];show En w b (.vsl 0 w []) l.length (Ay enc l)=_;have h1:(Ay enc l).length=l.length*w:=EC hw l;have hl1:l.length<=1073741824:=Nat.le_trans (Nat.le_mul_of_pos_right _ hb) hl;unfold En;simp only [h1,decide_true,AH,Nat.zero_mul,and_self];cases l with
 |nil=>rfl
 |cons c r=>have c1:(Nat.ble (Nat.mul (Nat.add 0 (r.length+1)) b) 1073741824&&Nat.ble (Nat.add 0 (r.length+1)) 1073741824&&Nat.blt 0 b)=true:=(by have e:Nat.mul (Nat.add 0 (r.length+1)) b=(r.length+1)*b:=(by show (0+(r.length+1))*b=_;rw [Nat.zero_add]);have e2:Nat.add 0 (r.length+1)=r.length+1:=Cw _;have e3:Nat.blt 0 b=true:=(by rw [Nat.blt_eq];exact hb);rw [e,e2,e3,Nat.ble_eq_true_of_le (show (r.length+1)*b<=1073741824 from hl),Nat.ble_eq_true_of_le (show r.length+1<=1073741824 from hl1)];rfl);simp only [List.length_cons,c1];show some (AV.vsl (Nat.add 0 (r.length+1)) w ([]++Ay enc (c::r)))=_;rw [show Nat.add 0 (r.length+1)=r.length+1 from Cw _,List.nil_append];rfl
def tB {l:List GI} {x:AV} (h:SlV n_ 7 l x) (hl:l.length<=1000000):AQ 68 [x] x:=by have hx:=h.ok Cx;refine MI (sh:=[none]) (ls:=[x]) (c:=vg) (n:=300) (t:=iB) mo ov (by rcases h with rfl|⟨_,rfl⟩<;>rfl) (by simp only [Ak,hx]) (Mc hx) (λY _=>Ck _) rfl (by kernel_rfl) λY hf hg=>?_;unfold iB;rcases h with rfl|⟨_,rfl⟩;refine Aa (r:=.bool false) (by kernel_rfl) rfl (AC (t:=false) rfl (λh=>by cases h) (λ_=>?_));exact Aa (YA JO (by decide) (by decide) (SlV.v (enc:=n_) (w:=7) l) (by omega)) (GO Cx _) (As rfl);exact Aa (r:=.bool true) (by kernel_rfl) rfl (AC (t:=true) rfl (λ_=>As rfl) (λh=>by cases h))
def Tt {l:List FV} {x:AV} (h:St l x) (hl:l.length<=1000000):AQ 42 [x] x:=by have hx:=h.okC;refine MI (sh:=[none]) (ls:=[x]) (c:=wH) (n:=300) (t:=iR) mo ov (by rcases h with rfl|⟨_,rfl⟩<;>rfl) (by simp only [Ak,hx]) (Mc hx) (λY _=>Ck _) rfl (by kernel_rfl) λY hf hg=>?_;unfold iR;rcases h with rfl|⟨_,rfl⟩;refine Aa (r:=.bool false) (by kernel_rfl) rfl (AC (t:=false) rfl (λh=>by cases h) (λ_=>?_));exact Aa (YA FL (by decide) (by decide) (SlV.v (enc:=f_) (w:=3) l) (by omega)) (GO B2 _) (As rfl);exact Aa (r:=.bool true) (by kernel_rfl) rfl (AC (t:=true) rfl (λ_=>As rfl) (λh=>by cases h))
structure SS where
 most:Int
 im:List FV
 m:MS
 err:Int
 n:Int
def Fq (x:AV) (s:SS) (st:AV):List AV:=VARS::x::.int .i64 s.most::b_ s.im::(KR s.m st++[.int .i64 s.err,.int .i64 s.n])
def Hp {x st:AV} (s:SS) (hx:okC x=true) (hs:okC st=true):Ak (Fq x s st)=true:=by
 have hv:okC VARS=true:=by kernel_rfl
 simp only [Fq,KR,Bl,Ct,Ak,okC,hv,hx,hs,x_]
structure Gq (s:SS):Prop where
 im:s.im.length<=1000
 st:s.m.st.length<=1000
 mem:s.m.mem.length<=1000
def WM {l:List GI} {x:AV} (hx:SlV n_ 7 l x) (hl:l.length<=1000000) {s:SS} {st:AV} (hs:St s.m.st st) (h:Gq s):AQ 31 [.agg (Fq x s st)] (.agg (Fq x s st)):=by have okx:=hx.ok Cx;have oks:=hs.okC;refine BV [some 13] (Fq x s st) u7 oG rfl (Hp s okx oks) (by have:=Hp s okx oks;exact Xa this) rfl rfl (by kernel_rfl) λY hf hg=>?_;unfold oG;refine Ar qr rfl (by kernel_rfl) (Ar (tB hx hl) rfl (by show Ak [x]=true;simp only [Ak,okx]) (Ar (Tt (SlV.of (enc:=f_) (w:=3) s.im) (by have:=h.im;omega)) rfl (by show Ak [b_ s.im]=true;simp only [Ak,x_]) (Ar (Tt hs (by have:=h.st;omega)) rfl (by show Ak [st]=true;simp only [Ak,oks]) (Ar (Tt (SlV.of (enc:=f_) (w:=3) s.m.mem) (by have:=h.mem;omega)) rfl (by show Ak [b_ s.m.mem]=true;simp only [Ak,x_]) (As rfl)))))
def xN:List AV:=[.nsl,.nsl,.int .i64 0,.nsl,.int .i64 0,.nsl,.nsl,.int .i64 0,.int .i64 0,.bool false,.int .i64 0,.int .i64 0,.int .i64 0]
def s0 (n:Int):SS:=⟨n,m0,⟨0,[],[],0,0,true,0⟩,0,0⟩
def zN (n:Int):Gq (s0 n):=⟨by show m0.length<=1000;decide,za' _,za' _⟩
def Nl (e n:Int):Int:=if n<1\/100000<n then 1 else e
def Rx (x:AV) (n e:Int):List AV:=if e=0 then Fq x (s0 n) .nsl else xN
def So:St [] .nsl:=.inr ⟨rfl,rfl⟩
def zx {x:AV} (hx:okC x=true) (n e:Int):Ak (Rx x n e)=true:=by unfold Rx;split;exact Hp _ hx rfl;rfl
def vw {l:List GI} {x:AV} (hx:SlV n_ 7 l x) (hl:l.length<=1000000) {b:AV} (hb:okC b=true) (n:Int) {e:Int} (hv:MJ l 21 e):AQ 10 [.agg [VARS,b],x,.int .i64 n] (.tup [.agg (Rx x n (Nl e n)),.int .i64 (Nl e n)]):=by
 have okx:=hx.ok Cx;have okv:okC VARS=true:=by kernel_rfl
 refine MI (sh:=[some 2,none,none]) (ls:=[VARS,b,x,.int .i64 n]) (c:=Wn) (n:=300) (t:=GN) mo ov (by rcases hx with rfl|⟨_,rfl⟩<;>rfl) (by simp only [Ak,okC,okv,okx,hb]) (vA (zx okx n _) rfl) (λY _=>Ck _) rfl (by kernel_rfl) λY hf hg=>?_;unfold GN;refine Ar yZ rfl rfl (Aa (Av ..) rfl (AC (t:=false) rfl (λh=>by cases h) (λ_=>?_)));refine Aa (Bn ..) rfl (AC rfl (λh1=>As ?_) (λh1=>?_));have h1:n<1:=dT h1;rw [show Nl e n=1 from Ad (.inl h1)];rfl;have h1:¬n<1:=dF h1;refine Aa (BF ..) rfl (AC rfl (λh2=>As ?_) (λh2=>?_));have h2:100000<n:=dT h2;rw [show Nl e n=1 from Ad (.inr h2)];rfl;have h2:¬100000<n:=dF h2;have he:Nl e n=e:=Ab (by omega);rw [he];refine Ar vC rfl rfl (Ar (p30 hx hl hv) rfl rfl (Aa (Av ..) rfl (AC rfl (λh0=>As ?_) (λh0=>?_))));have h0:(!decide (e=0))=true:=h0;have h0:¬e=0:=(by simpa using h0);unfold Rx;rw [Ab h0];rfl;have h0:(!decide (e=0))=false:=h0;have h0:e=0:=by simpa using h0
 subst h0;refine Ar sk rfl (by show Ak [b_ m0]=true;simp only [Ak,x_]) (Ar (WM hx hl (s:=s0 n) So (zN n)) rfl (Hp _ okx rfl) (As rfl))
def W_ (x:GI):Int×Int:=
 if x.op=1\/x.op=2 then (0,1)else if x.op=3\/x.op=17\/x.op=15\/x.op=16 then (1,1)else if x.op=18\/x.op=21 then (1,0)else if x.op=19 then (2,0)else if x.op=20\/x.op=23 then (0,0)else if x.op=22 then (x.n,0)else (2,1)
def B9 (x:GI) (n:Nat):Prop:=
 (x.op=2\/x.op=18->x.ad<21)/\(x.op=3\/x.op=19->x.ad=8/\x.n=4)/\(x.op=22->(x.kd=6/\x.ad=12)\/(x.kd=9/\x.ad=16)\/(x.kd=11/\x.ad=19))/\(x.op=20\/x.op=21->x.ad<(n:Int))
def B9.plc {x:GI} {n:Nat} (h:B9 x n):x.Plc n 21:=by
 obtain ⟨h1,h2,h3,h4⟩:=h;refine ⟨h1,λq=>?_,λq=>?_,h4⟩;obtain ⟨a,b⟩:=h2 q;rw [a,b];decide
 .rcases h3 q with ⟨a,b⟩|⟨a,b⟩|⟨a,b⟩<;>rw [a,b]<;>decide
def IK {x:GI} (h:decide x.May=true):x.May:=AR h
def uY (b:Nat) (hb:b<400):(l_ 20 0 b 0).May:=.inr ⟨show (20:Int)≠1 by decide,rfl,rfl,rfl,.inr (.inr (.inl ⟨.inl rfl,rfl,rfl,zd' b,by show (b:Int)<=399;omega⟩))⟩
def uS (b:Nat) (hb:b<400):(l_ 21 0 b 0).May:=.inr ⟨show (21:Int)≠1 by decide,rfl,rfl,rfl,.inr (.inr (.inl ⟨.inr rfl,rfl,rfl,zd' b,by show (b:Int)<=399;omega⟩))⟩
def qE {vk vi:Int} {vf:Nat} (h:1<=vk/\vk<=5/\0<=vi/\vi<50/\(vk=1->vi<=1)/\(vk=5->vi=0)/\(vk≠5->vf=0)) (hf:NZ vf):GI.May ⟨1,vk,0,0,vk,vi,vf⟩:=by obtain ⟨h1,h2,h3,h4,h5,h6,h7⟩:=h;refine .inl ⟨rfl,rfl,rfl,rfl,?_⟩;show F6 vk vi vf;by_cases e:vk=5;exact .inl ⟨e,h6 e⟩;refine .inr ⟨h7 e,?_⟩;by_cases e1:vk=1;have:=h5 e1;exact .inl ⟨e1,by omega⟩;by_cases e4:vk=4;exact .inr (.inr (.inr e4));omega
def dz {ad kd:Int} (h:(ad,kd)∈IF):GI.May (l_ 2 0 ad 0)/\GI.May (l_ 18 0 ad 0)/\ad<21:=by simp only [IF,CJ,List.not_mem_nil,or_false,Prod.mk.injEq]at h;rcases h with ⟨rfl,_⟩|⟨rfl,_⟩|⟨rfl,_⟩|⟨rfl,_⟩|⟨rfl,_⟩|⟨rfl,_⟩|⟨rfl,_⟩|⟨rfl,_⟩|⟨rfl,_⟩|⟨rfl,_⟩|⟨rfl,_⟩<;>exact ⟨IK (by kernel_rfl),IK (by kernel_rfl),by decide⟩
def HK:GI.May (l_ 3 0 8 4)/\GI.May (l_ 19 0 8 4)/\GI.May (l_ 23 0 0 0):=⟨IK (by kernel_rfl),IK (by kernel_rfl),IK (by kernel_rfl)⟩
def wR {a b:Int} (h:2<=a/\a<=5/\2<=b/\b<=5):GI.May (l_ 17 a 0 b):=by rcases (by omega:a=2\/a=3\/a=4\/a=5)with rfl|rfl|rfl|rfl<;>rcases (by omega:b=2\/b=3\/b=4\/b=5)with rfl|rfl|rfl|rfl<;>exact IK (by kernel_rfl)
def Ic:GI.May (l_ 15 1 0 0)/\∀k:Int,2<=k/\k<=5->GI.May (l_ 16 k 0 0):=by refine ⟨IK (by kernel_rfl),λk h=>?_⟩;rcases (by omega:k=2\/k=3\/k=4\/k=5)with rfl|rfl|rfl|rfl<;>exact IK (by kernel_rfl)
def u3 {op k:Int} (h:4<=op/\op<=14/\1<=k/\k<=5) (h1:op<=8->k≠1) (h2:op=8->k≠5) (h3:op=11\/op=12->k≠1) (h4:13<=op->k=1):GI.May (l_ op k 0 0):=by
 rcases (by omega:op=4\/op=5\/op=6\/op=7\/op=8\/op=9\/op=10\/op=11\/op=12\/op=13\/op=14)with rfl|rfl|rfl|rfl|rfl|rfl|rfl|rfl|rfl|rfl|rfl<;>
  rcases (by omega:k=1\/k=2\/k=3\/k=4\/k=5)with rfl|rfl|rfl|rfl|rfl<;>first|(exfalso;omega)|exact IK (by kernel_rfl)
def C4_ {kd ad:Int} {ks:List Int} (h:M0 kd ad ks):GI.May (l_ 22 kd ad (ks.length:Int))/\ks.length<=2:=by rcases h with ⟨rfl,rfl,rfl⟩|⟨rfl,rfl,rfl⟩|⟨rfl,rfl,rfl⟩<;>exact ⟨IK (by kernel_rfl),by decide⟩
def nx (h:Nat) (x:GI):Nat:=h-(W_ x).1.toNat+(W_ x).2.toNat
def run:Nat->List GI->Nat
 |h,[]=>h
 |h,x::r=>run (nx h x) r
theorem T_:∀(a b:List GI) (h:Nat),run h (a++b)=run (run h a) b
 |[],b,h=>rfl
 |x::a,b,h=>by simp only [Bl,run,T_ a b]
structure Jp (T:Nat->Prop) (h:Nat) (x:GI):Prop where
 lo:0<=(W_ x).1/\0<=(W_ x).2
 le:(W_ x).1.toNat<=h
 up:nx h x<=16
 halt:x.op≠23
 jump:(x.op=20\/x.op=21)->nx h x=0/\∃k:Nat,T k/\x=l_ x.op 0 (k:Int) 0
 may:x.op≠20->x.op≠21->x.May/\∀n,B9 x n
def Ok (T:Nat->Prop):Nat->List GI->Prop
 |_,[]=>True
 |h,x::r=>Jp T h x/\Ok T (nx h x) r
def ef {T:Nat->Prop}:∀(a b:List GI) (h:Nat),Ok T h a->Ok T (run h a) b->Ok T h (a++b)
 |[],b,h,_,h2=>h2
 |x::a,b,h,h1,h2=>⟨h1.1,ef a b _ h1.2 h2⟩
def pb {T:Nat->Prop}:∀(l:List GI) (h:Nat),Ok T h l->∀i (hi:i<l.length),Jp T (run h (l.take i)) l[i]
 |[],h,_,i,hi=>by simp at hi
 |x::r,h,ho,0,hi=>ho.1
 |x::r,h,ho,i+1,hi=>pb r _ ho.2 i (by simpa using hi)
def zO {T:Nat->Prop} {h:Nat} {x:GI} (a b:Nat) (ht:W_ x=((a:Int),(b:Int))) (h1:a<=h) (h2:h-a+b<=16) (h3:x.op≠23/\x.op≠20/\x.op≠21) (hm:x.May) (hp:∀n,B9 x n):Jp T h x/\nx h x=h-a+b:=by
 have e:nx h x=h-a+b:=by unfold nx;rw [ht];simp
 refine ⟨⟨by rw [ht];simp,by rw [ht];simpa using h1,by rw [e];exact h2,h3.1,λq=>?_,λ_ _=>⟨hm,hp⟩⟩,e⟩;rcases q with q|q;exact absurd q h3.2.1;exact absurd q h3.2.2
def Kk {T:Nat->Prop} {h:Nat} {x:GI} {k:Nat} (hi:Jp T h x/\nx h x=k):Ok T h [x]/\run h [x]=k:=⟨⟨hi.1,trivial⟩,hi.2⟩
def FM {T:Nat->Prop} {h k m:Nat} {a b:List GI} (ha:Ok T h a/\run h a=k) (hb:Ok T k b/\run k b=m):Ok T h (a++b)/\run h (a++b)=m:=by refine ⟨ef a b h ha.1 (by rw [ha.2];exact hb.1),by rw [T_,ha.2,hb.2]⟩
def VM {x:GI} (h:x.op≠2/\x.op≠18/\x.op≠3/\x.op≠19/\x.op≠22/\x.op≠20/\x.op≠21) (n:Nat):B9 x n:=by obtain ⟨h1,h2,h3,h4,h5,h6,h7⟩:=h;refine ⟨λq=>?_,λq=>?_,λq=>absurd q h5,λq=>?_⟩;rcases q with q|q;exact absurd q h1;exact absurd q h2;rcases q with q|q;exact absurd q h3;exact absurd q h4;rcases q with q|q;exact absurd q h6;exact absurd q h7
def Vp {ag:List GX} {k:Int} {r:List Int} (h:ag.map GX.kd=k::r):Eu ag=k:=by
 cases ag with
 |nil=>simp at h
 |cons a l=>simp at h;exact h.1
def II {T:Nat->Prop} {h:Nat} {x:GI} (o:Int) (hop:x.op=o) (a b:Nat) (ht:W_ x=((a:Int),(b:Int))) (h1:a<=h/\h-a+b<=16) (h3:o≠23/\o≠20/\o≠21) (hm:x.May) (hp:∀n,B9 x n):Jp T h x/\nx h x=h-a+b:=
 zO a b ht h1.1 h1.2 (by rw [hop];exact h3) hm hp
def Jy {x:GI} (o:Int) (hop:x.op=o) (h:o≠2/\o≠18/\o≠3/\o≠19/\o≠22/\o≠20/\o≠21) (n:Nat):B9 x n:=VM (by rw [hop];exact h) n
def rng {o:Int} (h:4<=o/\o<=14):(o≠1/\o≠2/\o≠3/\o≠17)/\(o≠23/\o≠20/\o≠21)/\(o≠2/\o≠18/\o≠3/\o≠19/\o≠22/\o≠20/\o≠21):=by refine ⟨⟨?_,?_,?_,?_⟩,⟨?_,?_,?_⟩,?_,?_,?_,?_,?_,?_,?_⟩<;>omega
def yJ {x:GI} (h:4<=x.op/\x.op<=14):W_ x=(((2:Nat):Int),((1:Nat):Int)):=by unfold W_;rw [Ab (by omega),Ab (by omega),Ab (by omega),Ab (by omega),Ab (by omega),Ab (by omega)];rfl
def BF_ {T:Nat->Prop} {d h:Nat} {op kd ad n vk vi:Int} {nm fd:List UInt8} {vf:Nat} {ag:List GX} (hx:TX (d+1) (.mk op kd nm fd ad n vk vi vf ag)) (h1:ag.length<=h) (h2:h-ag.length+1<=16):
  Jp T h (F_ op kd ad n vk vi vf ag)/\nx h (F_ op kd ad n vk vi vf ag)=h-ag.length+1:=by
 have g:∀a,ag.length=a->(a<=h/\h-a+1<=16):=λa e=>by subst e;exact ⟨h1,h2⟩
 obtain ⟨ha,hf,hk1,hk5,hk,_⟩:=hx;obtain ⟨c1,c2,c3,c4,UG,c16,Ly⟩:=hk;rcases ha with ⟨ho,hl⟩|⟨ho,hl⟩|⟨ho,hl⟩;rcases ho with rfl|rfl;obtain ⟨q1,q2,q3,q4,q5,q6,q7,q8⟩:=c1 rfl;have e:F_ 1 kd ad n vk vi vf ag=⟨1,vk,0,0,vk,vi,vf⟩:=(by unfold F_;rw [Ad rfl]);have gg:=g _ hl;rw [e,hl];exact II 1 rfl 0 1 rfl gg (by decide) (qE ⟨q2,q3,q4,q5,q6,q7,q8⟩ hf) λn=>Jy 1 rfl (by decide) n;obtain ⟨m1,m2,m3⟩:=dz (c2 rfl);have e:F_ 2 kd ad n vk vi vf ag=l_ 2 0 ad 0:=(by unfold F_;rw [Ab (by decide),Ad rfl]);have gg:=g _ hl;rw [e,hl];exact II 2 rfl 0 1 rfl gg (by decide) m1 λn=>⟨λ_=>m3,λq=>absurd q (show ¬((2:Int)=3\/(2:Int)=19) by decide),λq=>absurd q (show ¬((2:Int)=22) by decide),λq=>absurd q (show ¬((2:Int)=20\/(2:Int)=21) by decide)⟩;rcases ho with rfl|rfl|rfl|rfl;obtain ⟨rfl,rfl,rfl,_⟩:=c3 rfl;have e:F_ 3 2 8 4 vk vi vf ag=l_ 3 0 8 4:=(by unfold F_;rw [Ab (by decide),Ab (by decide),Ad rfl]);have gg:=g _ hl;rw [e,hl];exact II 3 rfl 1 1 rfl gg (by decide) HK.1 λn=>⟨λq=>absurd q (show ¬((3:Int)=2\/(3:Int)=18) by decide),λ_=>⟨rfl,rfl⟩,λq=>absurd q (show ¬((3:Int)=22) by decide),λq=>absurd q (show ¬((3:Int)=20\/(3:Int)=21) by decide)⟩;obtain ⟨rfl,hks⟩:=UG rfl;have e:F_ 15 1 ad n vk vi vf ag=l_ 15 1 0 0:=(by unfold F_;rw [Ab (by decide),Ab (by decide),Ab (by decide),Ab (by decide),Vp hks]);have gg:=g _ hl;rw [e,hl];exact II 15 rfl 1 1 rfl gg (by decide) Ic.1 λn=>Jy 15 rfl (by decide) n;obtain ⟨hks,k2,k5⟩:=c16 rfl;have e:F_ 16 kd ad n vk vi vf ag=l_ 16 kd 0 0:=(by unfold F_;rw [Ab (by decide),Ab (by decide),Ab (by decide),Ab (by decide),Vp hks]);have gg:=g _ hl;rw [e,hl];exact II 16 rfl 1 1 rfl gg (by decide) (Ic.2 kd ⟨k2,k5⟩) λn=>Jy 16 rfl (by decide) n;obtain ⟨k2,k5,k,hks,j2,j5⟩:=Ly rfl;have e:F_ 17 kd ad n vk vi vf ag=l_ 17 kd 0 k:=(by unfold F_;rw [Ab (by decide),Ab (by decide),Ab (by decide),Ad rfl,Vp hks]);have gg:=g _ hl;rw [e,hl];exact II 17 rfl 1 1 rfl gg (by decide) (wR ⟨k2,k5,j2,j5⟩) λn=>Jy 17 rfl (by decide) n;obtain ⟨k,hks,b1,b5,b8,b9,be,b11,b13⟩:=c4 ho;obtain ⟨⟨n1,n2,n3,n17⟩,r2,r3⟩:=rng ho;have e:F_ op kd ad n vk vi vf ag=l_ op k 0 0:=(by unfold F_;rw [Ab n1,Ab n2,Ab n3,Ab n17,Vp hks]);have gg:=g _ hl;rw [e,hl];exact II op rfl 2 1 (yJ ho) gg r2 (u3 ⟨ho.1,ho.2,b1,b5⟩ (λq=>(b8 q).2) be b11 b13) λn=>Jy op rfl r3 n
def VB {T:Nat->Prop} {d:Nat} (ih:∀(x:GX) (h:Nat),TX d x->h+d<=16->Ok T h (c_ x)/\run h (c_ x)=h+1):∀(l:List GX) (h:Nat),(∀x∈l,TX d x)->h+l.length+d<=17->Ok T h (g_ l)/\run h (g_ l)=h+l.length
 |[],h,_,_=>⟨trivial,rfl⟩
 |a::r,h,hx,hl=>by simp only [List.length_cons]at hl;have h1:=ih a h (hx a (zb' ..)) (by omega);have h2:=VB ih r (h+1) (λx q=>hx x (zc' _ q)) (by omega);have:=FM h1 h2;simp only [g_,List.length_cons];rw [show h+(r.length+1)=h+1+r.length by omega];exact this
def Pr {T:Nat->Prop}:∀(d:Nat) (x:GX) (h:Nat),TX d x->h+d<=16->Ok T h (c_ x)/\run h (c_ x)=h+1
 |0,x,h,hx,_=>hx.elim
 |d+1,.mk op kd nm fd ad n vk vi vf ag,h,hx,hd=>by have hl:ag.length<=2:=(by have:=hx.1;unfold Cz at this;omega);have h1:=VB (Pr (T:=T) d) ag h hx.2.2.2.2.2 (by omega);have h2:=BF_ (T:=T) (h:=h+ag.length) hx (by omega) (by omega);rw [show h+ag.length-ag.length+1=h+1 by omega]at h2;simp only [c_];exact FM h1 (Kk h2)
def zh {T:Nat->Prop} {to:GX} (hx:TX 5 to) (ho:to.op=2\/to.op=3):Ok T 1 (Ey to)/\run 1 (Ey to)=0:=by obtain ⟨op,kd,nm,fd,ad,n,vk,vi,vf,ag⟩:=to;obtain ⟨ha,hf,hk1,hk5,hk,hargs⟩:=hx;obtain ⟨c1,c2,c3,c4,UG,c16,Ly⟩:=hk;have ho:op=2\/op=3:=ho;rcases ho with rfl|rfl;obtain ⟨m1,m2,m3⟩:=dz (c2 rfl);have e:Ey (.mk 2 kd nm fd ad n vk vi vf ag)=[l_ 18 0 ad 0]:=rfl;rw [e];exact Kk (II 18 rfl 1 0 rfl (by decide) (by decide) m2 λn=>⟨λ_=>m3,λq=>absurd q (show ¬((18:Int)=3\/(18:Int)=19) by decide),λq=>absurd q (show ¬((18:Int)=22) by decide),λq=>absurd q (show ¬((18:Int)=20\/(18:Int)=21) by decide)⟩);obtain ⟨rfl,rfl,rfl,k,hks,_⟩:=c3 rfl;have hl:ag.length=1:=(by have:=congrArg List.length hks;simpa using this);have h1:=VB (Pr (T:=T) 4) ag 1 hargs (by rw [hl];decide);rw [hl]at h1;have e:Ey (.mk 3 2 nm fd 8 4 vk vi vf ag)=g_ ag++[l_ 19 0 8 4]:=rfl;rw [e];exact FM h1 (Kk (II 19 rfl 2 0 rfl (by decide) (by decide) HK.2.1 λn=>⟨λq=>absurd q (show ¬((19:Int)=2\/(19:Int)=18) by decide),λ_=>⟨rfl,rfl⟩,λq=>absurd q (show ¬((19:Int)=22) by decide),λq=>absurd q (show ¬((19:Int)=20\/(19:Int)=21) by decide)⟩))
theorem Lg (k:Int):nx 1 (l_ 21 0 k 0)=0:=rfl
theorem N4 (k:Int):nx 0 (l_ 20 0 k 0)=0:=rfl
def bN {T:Nat->Prop} {k:Nat} (h:T k):Jp T 1 (l_ 21 0 (k:Int) 0) where
 lo:=⟨show (0:Int)<=1 by decide,show (0:Int)<=0 by decide⟩
 le:=show (1:Nat)<=1 by decide
 up:=by rw [Lg];decide
 halt:=by show (21:Int)≠23;decide
 jump:=λ_=>⟨Lg _,k,h,rfl⟩
 may:=λ_ q=>absurd rfl q
def hO {T:Nat->Prop} {k:Nat} (h:T k):Jp T 0 (l_ 20 0 (k:Int) 0) where
 lo:=⟨show (0:Int)<=0 by decide,show (0:Int)<=0 by decide⟩
 le:=show (0:Nat)<=0 by decide
 up:=by rw [N4];decide
 halt:=by show (20:Int)≠23;decide
 jump:=λ_=>⟨N4 _,k,h,rfl⟩
 may:=λq _=>absurd rfl q
def DO (T:Nat->Prop) (b:Nat) (W:List GI):Prop:=∀m,m<=W.length->run 0 (W.take m)=0->T (b+m)
def DO.seg {T:Nat->Prop} {b:Nat} {P Q R:List GI} (hP:run 0 P=0) (h:DO T b (P++(Q++R))):DO T (b+P.length) Q:=λm hm hr=>by have:=h (P.length+m) (by simp only [Ax];omega) (by rw [List.take_length_add_append,List.take_append_of_le_length hm,T_,hP];exact hr);rw [Nat.add_assoc];exact this
def DO.at {T:Nat->Prop} {b:Nat} {P Q:List GI} (hP:run 0 P=0) (h:DO T b (P++Q)):T (b+P.length):=
 h P.length (by simp only [Ax];omega) (by rw [List.take_left];exact hP)
def DO.end {T:Nat->Prop} {b:Nat} {P:List GI} (hP:run 0 P=0) (h:DO T b P):T (b+P.length):=
 h P.length (Nat.le_refl _) (by rw [List.take_length];exact hP)
def Pb {T:Nat->Prop} {d:Nat} (ih:∀(s:GS) (b:Nat),TS d s->DO T b (w_ b s)->Ok T 0 (w_ b s)/\run 0 (w_ b s)=0):∀(l:List GS) (b:Nat),(∀s∈l,TS d s)->DO T b (h_ b l)->Ok T 0 (h_ b l)/\run 0 (h_ b l)=0
 |[],b,_,_=>⟨trivial,rfl⟩
 |s::r,b,hs,ha=>by
  simp only [h_]at ha⊢;have ha1:DO T b (w_ b s):=by have:=DO.seg (P:=[]) (Q:=w_ b s) (R:=h_ (b+(w_ b s).length) r) rfl ha;exact this
  have h1:=ih s b (hs s (zb' ..)) ha1;have ha2:DO T (b+(w_ b s).length) (h_ (b+(w_ b s).length) r):=DO.seg (P:=w_ b s) (R:=[]) h1.2 (by rw [List.append_nil];exact ha);have h2:=Pb ih r _ (λx q=>hs x (zc' _ q)) ha2;exact FM h1 h2
def Pj {T:Nat->Prop}:∀(d:Nat) (s:GS) (b:Nat),TS d s->DO T b (w_ b s)->Ok T 0 (w_ b s)/\run 0 (w_ b s)=0
 |0,s,b,hs,_=>hs.elim
 |d+1,.mk op to e thn els nm kd ad ag,b,hs,ha=>by rcases hs with ⟨rfl,hto,hop,he,_⟩|⟨hop,he,_,_,_,hthn,hels⟩|⟨rfl,hb,hargs⟩;have e1:w_ b (.mk 1 to e thn els nm kd ad ag)=c_ e++Ey to:=(by unfold w_;rw [Ad rfl]);rw [e1];exact FM (Pr 6 e 0 he (by decide)) (zh hto (hop.elim (λh=>.inl h.1) .inr));have hc:=Pr (T:=T) 5 e 0 he (by decide);rcases hop with rfl|rfl;by_cases hE:els=[];have e1:w_ b (.mk 2 to e thn els nm kd ad ag)=c_ e++[l_ 21 0 ((b+(c_ e).length+1+(h_ (b+(c_ e).length+1) thn).length:Nat):Int) 0]++h_ (b+(c_ e).length+1) thn:=(by unfold w_;rw [Ab (by decide),Ad rfl,Ad hE]);rw [e1]at ha⊢;obtain ⟨k,hk⟩:∃k,k=b+(c_ e).length+1+(h_ (b+(c_ e).length+1) thn).length:=⟨_,rfl⟩;rw [←hk]at ha⊢;have hP:run 0 (c_ e++[l_ 21 0 (k:Int) 0])=0:=(by rw [T_,hc.2];exact Lg _);have hPl:b+(c_ e++[l_ 21 0 (k:Int) 0]).length=b+(c_ e).length+1:=(by simp only [Ax,List.length_cons,AH];omega);have ht:=Pb (Pj (T:=T) d) thn (b+(c_ e).length+1) hthn (by have:=DO.seg (R:=[]) hP (by rw [List.append_nil];exact ha);rw [hPl]at this;exact this);have hW:run 0 (c_ e++[l_ 21 0 (k:Int) 0]++h_ (b+(c_ e).length+1) thn)=0:=(by rw [T_,hP,ht.2]);have hT:=DO.end hW ha;have hkT:T k:=(by have:b+(c_ e++[l_ 21 0 (k:Int) 0]++h_ (b+(c_ e).length+1) thn).length=k:=(by simp only [Ax,List.length_cons,AH];omega);rw [this]at hT;exact hT);exact FM (FM hc (Kk ⟨bN hkT,Lg _⟩)) ht;have e1:w_ b (.mk 2 to e thn els nm kd ad ag)=c_ e++[l_ 21 0 ((b+(c_ e).length+1+(h_ (b+(c_ e).length+1) thn).length+1:Nat):Int) 0]++h_ (b+(c_ e).length+1) thn++[l_ 20 0 ((b+(c_ e).length+1+(h_ (b+(c_ e).length+1) thn).length+1+(h_ (b+(c_ e).length+1+(h_ (b+(c_ e).length+1) thn).length+1) els).length:Nat):Int) 0]++h_ (b+(c_ e).length+1+(h_ (b+(c_ e).length+1) thn).length+1) els:=(by unfold w_;rw [Ab (by decide),Ad rfl,Ab hE]);rw [e1]at ha⊢;obtain ⟨t,ht0⟩:∃t,t=h_ (b+(c_ e).length+1) thn:=⟨_,rfl⟩;rw [←ht0]at ha⊢;obtain ⟨k,hk⟩:∃k,k=b+(c_ e).length+1+t.length+1:=⟨_,rfl⟩;rw [←hk]at ha⊢;obtain ⟨q,hq0⟩:∃q,q=h_ k els:=⟨_,rfl⟩;rw [←hq0]at ha⊢;obtain ⟨j,hj⟩:∃j,j=k+q.length:=⟨_,rfl⟩;rw [←hj]at ha⊢;have hP:run 0 (c_ e++[l_ 21 0 (k:Int) 0])=0:=(by rw [T_,hc.2];exact Lg _);have hPl:b+(c_ e++[l_ 21 0 (k:Int) 0]).length=b+(c_ e).length+1:=(by simp only [Ax,List.length_cons,AH];omega);have ht:=Pb (Pj (T:=T) d) thn (b+(c_ e).length+1) hthn (by have:=DO.seg (P:=c_ e++[l_ 21 0 (k:Int) 0]) (Q:=t) (R:=[l_ 20 0 (j:Int) 0]++q) hP (by simpa only [Be]using ha);rw [hPl,ht0]at this;exact this);rw [←ht0]at ht;have hP2:run 0 (c_ e++[l_ 21 0 (k:Int) 0]++t++[l_ 20 0 (j:Int) 0])=0:=(by rw [T_,T_,hP,ht.2];exact N4 _);have hPl2:b+(c_ e++[l_ 21 0 (k:Int) 0]++t++[l_ 20 0 (j:Int) 0]).length=k:=(by simp only [Ax,List.length_cons,AH];omega);have hq:=Pb (Pj (T:=T) d) els k hels (by have:=DO.seg (R:=[]) hP2 (by rw [List.append_nil];exact ha);rw [hPl2,hq0]at this;exact this);rw [←hq0]at hq;have hkT:T k:=(by have:=DO.at hP2 ha;rw [hPl2]at this;exact this);have hW:run 0 (c_ e++[l_ 21 0 (k:Int) 0]++t++[l_ 20 0 (j:Int) 0]++q)=0:=(by rw [T_,hP2,hq.2]);have hjT:T j:=(by have:=DO.end hW ha;rw [List.length_append,←Nat.add_assoc,hPl2,←hj]at this;exact this);exact FM (FM (FM (FM hc (Kk ⟨bN hkT,Lg _⟩)) ht) (Kk ⟨hO hjT,N4 _⟩)) hq;have e1:w_ b (.mk 3 to e thn els nm kd ad ag)=c_ e++[l_ 21 0 ((b+(c_ e).length+1+(h_ (b+(c_ e).length+1) thn).length+1:Nat):Int) 0]++h_ (b+(c_ e).length+1) thn++[l_ 20 0 (b:Int) 0]:=(by unfold w_;rw [Ab (by decide),Ab (by decide),Ad rfl]);rw [e1]at ha⊢;obtain ⟨t,ht0⟩:∃t,t=h_ (b+(c_ e).length+1) thn:=⟨_,rfl⟩;rw [←ht0]at ha⊢;obtain ⟨k,hk⟩:∃k,k=b+(c_ e).length+1+t.length+1:=⟨_,rfl⟩;rw [←hk]at ha⊢;have hP:run 0 (c_ e++[l_ 21 0 (k:Int) 0])=0:=(by rw [T_,hc.2];exact Lg _);have hPl:b+(c_ e++[l_ 21 0 (k:Int) 0]).length=b+(c_ e).length+1:=(by simp only [Ax,List.length_cons,AH];omega);have ht:=Pb (Pj (T:=T) d) thn (b+(c_ e).length+1) hthn (by have:=DO.seg (P:=c_ e++[l_ 21 0 (k:Int) 0]) (Q:=t) (R:=[l_ 20 0 (b:Int) 0]) hP (by simpa only [Be]using ha);rw [hPl,ht0]at this;exact this);rw [←ht0]at ht;have hW:run 0 (c_ e++[l_ 21 0 (k:Int) 0]++t++[l_ 20 0 (b:Int) 0])=0:=(by rw [T_,T_,hP,ht.2];exact N4 _);have hkT:T k:=(by have:=DO.end hW ha;have h2:b+(c_ e++[l_ 21 0 (k:Int) 0]++t++[l_ 20 0 (b:Int) 0]).length=k:=(by simp only [Ax,List.length_cons,AH];omega);rw [h2]at this;exact this);have hbT:T b:=(by have:=ha 0 (za' _) rfl;exact this);exact FM (FM (FM hc (Kk ⟨bN hkT,Lg _⟩)) ht) (Kk ⟨hO hbT,N4 _⟩);have e1:w_ b (.mk 4 to e thn els nm kd ad ag)=g_ ag++[l_ 22 kd ad (ag.length:Int)]:=(by unfold w_;rw [Ab (by decide),Ab (by decide),Ab (by decide)]);obtain ⟨hm,hl⟩:=C4_ hb;rw [List.length_map]at hm hl;rw [e1];have h1:=VB (Pr (T:=T) 5) ag 0 hargs.1 (by omega);rw [Nat.zero_add]at h1;have h3:=II (T:=T) (h:=ag.length) (x:=l_ 22 kd ad (ag.length:Int)) 22 rfl ag.length 0 rfl (by omega) (by decide) hm λn=>⟨λq=>absurd q (show ¬((22:Int)=2\/(22:Int)=18) by decide),λq=>absurd q (show ¬((22:Int)=3\/(22:Int)=19) by decide),λ_=>?_,λq=>absurd q (show ¬((22:Int)=20\/(22:Int)=21) by decide)⟩;rw [Nat.sub_self]at h3;exact FM h1 (Kk h3);rcases hb with ⟨a,b,_⟩|⟨a,b,_⟩|⟨a,b,_⟩;exact .inl ⟨a,b⟩;exact .inr (.inl ⟨a,b⟩);exact .inr (.inr ⟨a,b⟩)
def qH (x:GI) (i h n:Nat) (ht:Nat->Nat):Prop:=((x.op=20\/x.op=21)->∃k:Nat,x.ad=(k:Int)/\k<n/\ht k=h)/\(x.op≠20->x.op≠23->i+1<n/\ht (i+1)=h)
structure F0 (l:List GI) (ht:Nat->Nat):Prop where
 n1:0<l.length
 n4:l.length<=400
 last:∀h:l.length-1<l.length,l[l.length-1].op=23
 zero:ht 0=0
 le:∀i,ht i<=16
 may:∀x∈l,x.May
 plc:∀x∈l,x.Plc l.length 21
 step:∀i (h:i<l.length),∃a b:Nat,W_ l[i]=((a:Int),(b:Int))/\a<=ht i/\ht i-a+b<=16/\qH l[i] i (ht i-a+b) l.length ht
def iz (l:List GI) (i:Nat) (h:i<l.length) (k:Nat):run k (l.take (i+1))=nx (run k (l.take i)) l[i]:=by rw [List.take_succ_eq_append_getElem h,T_];rfl
def stands {x:List GS} (hx:∀s∈x,TS 3 s) (h4:(r_ x).length<=400):F0 (r_ x) (λi=>run 0 ((r_ x).take i)):=by
 obtain ⟨G,hG⟩:∃G,G=h_ 0 x:=⟨_,rfl⟩;have hL:r_ x=G++[l_ 23 0 0 0]:=by rw [hG];rfl
 rw [hL]at h4⊢;obtain ⟨T,hT⟩:∃T:Nat->Prop,T=λk=>k<(G++[l_ 23 0 0 0]).length/\run 0 ((G++[l_ 23 0 0 0]).take k)=0:=⟨_,rfl⟩;have hlen:(G++[l_ 23 0 0 0]).length=G.length+1:=by simp
 have aim:DO T 0 (h_ 0 x):=λm hm hr=>by rw [←hG]at hm hr;rw [hT,Nat.zero_add];exact ⟨by omega,by rw [List.take_append_of_le_length hm];exact hr⟩
 have hok:=Pb (Pj (T:=T) 3) x 0 hx aim;rw [←hG]at hok;obtain ⟨ok,hr0⟩:=hok;have at1:∀i (h:i<(G++[l_ 23 0 0 0]).length),(i<G.length/\Jp T (run 0 ((G++[l_ 23 0 0 0]).take i)) (G++[l_ 23 0 0 0])[i])\/(i=G.length/\(G++[l_ 23 0 0 0])[i]=l_ 23 0 0 0):=λi h=>by by_cases hi:i<G.length;refine .inl ⟨hi,?_⟩;have:=pb G 0 ok i hi;rw [List.take_append_of_le_length (by omega),List.getElem_append_left hi];exact this;have e:i=G.length:=(by omega);subst e;exact .inr ⟨rfl,by simp⟩
 have hh:nx 0 (l_ 23 0 0 0)=0:=rfl;have hrL:run 0 (G++[l_ 23 0 0 0])=0:=by rw [T_,hr0];exact hh
 have mem:∀y∈G++[l_ 23 0 0 0],∃i,∃h:i<(G++[l_ 23 0 0 0]).length,y=(G++[l_ 23 0 0 0])[i]:=λy hy=>by obtain ⟨i,h,e⟩:=List.mem_iff_getElem.1 hy;exact ⟨i,h,e.symm⟩
 refine ⟨by omega,h4,λh=>?_,rfl,λi=>?_,λy hy=>?_,λy hy=>?_,λi h=>?_⟩;rcases at1 _ h with ⟨q,_⟩|⟨_,q⟩;omega;rw [q];rfl
 .cases i with
  |zero=>exact za' _
  |succ i=>by_cases hi:i<(G++[l_ 23 0 0 0]).length;show run 0 ((G++[l_ 23 0 0 0]).take (i+1))<=16;rw [iz _ i hi];rcases at1 i hi with ⟨_,q⟩|⟨e,q⟩;exact q.up;rw [q,e,List.take_left,hr0,hh];exact za' _;show run 0 ((G++[l_ 23 0 0 0]).take (i+1))<=16;rw [List.take_of_length_le (by omega),hrL];exact za' _
 obtain ⟨i,h,rfl⟩:=mem y hy;rcases at1 i h with ⟨_,q⟩|⟨_,q⟩;by_cases hj:(G++[l_ 23 0 0 0])[i].op=20\/(G++[l_ 23 0 0 0])[i].op=21;obtain ⟨_,k,hk,e⟩:=q.jump hj;rw [hT]at hk;have hk:=hk.1;rcases hj with hj|hj;rw [e,hj];exact uY k (by omega);rw [e,hj];exact uS k (by omega);exact (q.may (λe=>hj (.inl e)) (λe=>hj (.inr e))).1;rw [q];exact HK.2.2;obtain ⟨i,h,rfl⟩:=mem y hy;refine B9.plc ?_;rcases at1 i h with ⟨_,q⟩|⟨_,q⟩;by_cases hj:(G++[l_ 23 0 0 0])[i].op=20\/(G++[l_ 23 0 0 0])[i].op=21;obtain ⟨_,k,hk,e⟩:=q.jump hj;rw [hT]at hk;have hk:=hk.1;have ho:∀o:Int,(o=20\/o=21)->B9 (l_ o 0 (k:Int) 0) (G++[l_ 23 0 0 0]).length:=λo ho=>(by have e0:(l_ o 0 (k:Int) 0).op=o:=rfl;refine ⟨λq=>?_,λq=>?_,λq=>?_,λ_=>?_⟩;rw [e0]at q;omega;rw [e0]at q;omega;rw [e0]at q;omega;show (k:Int)<_;omega);rw [e];exact ho _ hj;exact (q.may (λe=>hj (.inl e)) (λe=>hj (.inr e))).2 _;rw [q];exact Jy 23 rfl (by decide) _;rcases at1 i h with ⟨hi,q⟩|⟨_,q⟩;have h27:W_ (G++[l_ 23 0 0 0])[i]=((W_ (G++[l_ 23 0 0 0])[i]).1,(W_ (G++[l_ 23 0 0 0])[i]).2):=rfl;have e1:=ze' q.lo.1;have e2:=ze' q.lo.2;refine ⟨_,_,by rw [e1,e2],q.le,q.up,λhj=>?_,λ_ _=>⟨by omega,iz _ i h 0⟩⟩;obtain ⟨h0,k,hk,e⟩:=q.jump hj;rw [hT]at hk;refine ⟨k,by rw [e];rfl,hk.1,?_⟩;exact hk.2.trans h0.symm;have h27:W_ (l_ 23 0 0 0)=(((0:Nat):Int),((0:Nat):Int)):=rfl;rw [q];exact ⟨0,0,h27,za' _,by have:=za' 16;show run 0 _-0+0<=16;rw [show i=G.length by omega,List.take_left,hr0];exact this,λhj=>absurd hj (show ¬((23:Int)=20\/(23:Int)=21) by decide),λ_ hn=>absurd rfl hn⟩
def xD (x:GI):(W_ x).1.toNat=j_ x/\(W_ x).2.toNat=(Q_ x.op).toNat:=by
 unfold W_ j_ Q_
 (repeat' split)<;>first|exact ⟨rfl,rfl⟩|(exfalso;omega)|(refine ⟨?_,?_⟩<;>simp_all<;>omega)
def kD {l:List GI} {ht:Nat->Nat} (h:F0 l ht) {w:Nat×Nat} (hw:w.1<l.length) (he:w.2=ht w.1):(t_ l).full w=false/\∀w'∈(t_ l).nxt w,w'.1<l.length/\w'.2=ht w'.1:=by
 obtain ⟨i,k⟩:=w;have hw:i<l.length:=hw;have he:k=ht i:=he;subst he;obtain ⟨a,b,h1,h2,h3,hg⟩:=h.step i hw;obtain ⟨q1,q2⟩:=xD l[i];rw [h1]at q1 q2;have q1:a=j_ l[i]:=by simpa using q1
 have q2:b=(Q_ l[i].op).toNat:=by simpa using q2
 have ei:l[i]? =some l[i]:=List.getElem?_eq_getElem hw;have t1:(t_ l).tk i=a:=by simp only [t_,ei,q1]
 have t2:(t_ l).lv i=b:=by simp only [t_,ei,q2]
 have t3:(t_ l).goes i=C_ l[i] i:=by simp only [t_,ei]
 have f0:(t_ l).full (i,ht i)=false:=by unfold WG.full;simp only [t1,t2,Bool.or_eq_false_iff,AP];omega
 refine ⟨f0,λw' hn=>?_⟩;obtain ⟨_,n1,n2,_⟩:=WG.nxt_hi hn;have n1:w'.2=ht i-a+b:=by rw [n1];show ht i-(t_ l).tk i+(t_ l).lv i=_;rw [t1,t2]
 have n2:w'.1∈C_ l[i] i:=by rw [←t3];exact n2
 obtain ⟨g1,g2⟩:=hg;unfold C_ at n2;split at n2;cases n2
 next h23=>
 split at n2
 next h20=>
  obtain ⟨k,e1,e2,e3⟩:=g1 (.inl h20);rw [e1]at n2;have n2:w'.1=k:=(by simpa using n2);rw [n1,n2];exact ⟨e2,e3.symm⟩
 next h20=>
 have g2:=g2 h20 h23;split at n2
 next h21=>
  obtain ⟨k,e1,e2,e3⟩:=g1 (.inr h21);rw [e1]at n2;have n2:w'.1=k\/w'.1=i+1:=(by simpa using n2);rcases n2 with n2|n2;rw [n1,n2];exact ⟨e2,e3.symm⟩;rw [n1,n2];exact ⟨g2.1,g2.2.symm⟩
 next h21=>
  have n2:w'.1=i+1:=(by simpa using n2);rw [n1,n2];exact ⟨g2.1,g2.2.symm⟩
def YH {l:List GI} {ht:Nat->Nat} (h:F0 l ht) {w:Nat×Nat} (hr:(t_ l).Reach w):w.1<l.length/\w.2=ht w.1:=by
 induction hr with
 |zero=>exact ⟨h.n1,h.zero.symm⟩
 |step _ hw ih=>exact (kD h ih.1 ih.2).2 _ hw
def uE {x:List GS} (hx:∀s∈x,TS 3 s) (h4:(r_ x).length<=400):MJ (r_ x) 21 0:=by
 have h:=stands hx h4;have hA:DR (r_ x):=⟨h.n1,h.n4,h.may,h.last⟩;have hF:D8 (r_ x) 21:=hA.form h.plc;have n1:¬(t_ (r_ x)).Full:=λ⟨w,hr,hf⟩=>by obtain ⟨a,b⟩:=YH h hr;rw [(kD h a b).1]at hf;cases hf
 have n2:¬(t_ (r_ x)).Two:=λ⟨a,k,k',h1,h2,hne⟩=>hne ((YH h h1).2.trans (YH h h2).2.symm);exact ⟨λq=>absurd hA q,λ_ q=>absurd h.plc q,λ_ q=>absurd q n1,λ_ _ q=>absurd q n2,λ_ _ _=>rfl⟩
def Mn:FT:=⟨0,⟨[(0,.agg (hs 0 13))],[],0,13,[],[],[]⟩,[(false,⟨[(0,.tup [.agg (hs 0 13),.slx 13 0 0])],[],0,14,[],[],[]⟩)]⟩
def uJ:VC:=⟨⟨[],[]⟩,[(31,[(some 13)]),(39,[(some 7)])],[],0,true,[]⟩
def OG:VT:=.call 31 [.agg (Af 64 13)] 78 [(some 13)]<|It Z3 [89,J 0] 91 (.call 39 [81,77] 92 [(some 7)]<|.done (.agg ([78,79,80,81]++Af 92 7++[89,90])))<|.done (.agg (Af 78 13))
def vO:VC:=⟨⟨[],[]⟩,[],[],0,true,[]⟩
def jA:VT:=Li Qz [65] 66<|It Qd [66,J 21] 67 (Dn [.nsl])<|It Zj [65,.nsl] 68 (Li Qw [.nsl,J 2] 69 .bad)<|Li Qe [.vsl 0 3 [],65] 69<|Li Q2 [69,J 2] 70<|Li Z1 [69,70,.agg [J 2,J 7,.flt .f64 0]] 71<|Li Q2 [69,J 3] 72<|Li Z1 [71,72,.agg [J 1,J 1,.flt .f64 0]] 73<|.chk (.same 69 73)<|Dn [73]
def vx:VC:=⟨⟨[],[]⟩,[],[],0,true,[]⟩
def fu:VT:=Li Qz [65] 66<|It Qd [66,J 21] 67 (Dn [.nsl])<|Li Qe [.vsl 0 3 [],65] 68<|Li Q2 [68,J 2] 69<|Li Z1 [68,69,.agg [J 2,J 7,.flt .f64 0]] 70<|Li Q2 [68,J 3] 71<|Li Z1 [70,71,.agg [J 1,J 1,.flt .f64 0]] 72<|.chk (.same 68 72)<|Dn [72]
def UG:VC:=⟨⟨[],[]⟩,[(31,[(some 13)]),(42,[none])],[],0,true,[(41,YP),(43,Fg)]⟩
def MB:VT:=.call 31 [.agg (Af 64 13)] 77 [(some 13)]<|It Q7 [88,J 0] 90 (Dn (Af 77 13++[.bool true]))<|.ite 86 (Dn (Af 77 13++[.bool true]))<|It Z7 [84,79] 91 (.ite 86 (.call 42 [83] 92 [none]<|Li Q3 [89,J 1] 93<|Dn ([77,78,79,92]++Af 81 6++[J 8,88,93,.bool true]))<|Cf 43 Fg [77,80] 92 1<|Li Q3 [89,J 1] 95<|Dn ([77,78,79,94]++Af 81 6++[J 8,J 8,95,.bool true]))<|Cf 41 YP ([78]++Af 81 7) 92 7<|.ite 105 (.call 42 [102] 107 [none]<|Li Q3 [89,J 1] 108<|Dn ([77,78,79,107]++Af 100 7++[88,108,.bool true]))<|It Q7 [106,J 0] 107 (Cf 43 Fg [77,80] 108 1<|Li Q3 [89,J 1] 111<|Dn ([77,78,79,110]++Af 100 7++[106,111,.bool true]))<|Dn ([77,78,79,80]++Af 100 7++[88,89,.bool false])
def Ff (l:List FV):List FV:=(l.set 2 ⟨2,7,some 0⟩).set 3 ⟨1,1,some 0⟩
def fO {l:List FV} (h:Aj l):(Ff l).length=21:=by unfold Ff;rw [List.length_set,List.length_set,h.len]
def pH {l:List FV} (h:Aj l):Aj (Ff l):=by
 obtain ⟨a0,a1,a2,a3,a4,a5,a6,a7,a8,a9,a10,a11,a12,a13,a14,a15,a16,a17,a18,a19,a20,rfl⟩:=ED h.len;have t2:TV ⟨2,7,some 0⟩:=by simp only [TV,Do];decide
 have t3:TV ⟨1,1,some 0⟩:=by simp only [TV,Do];decide
 exact ((h.set (i:=2) (Nat.lt_of_lt_of_eq (by decide) h.len.symm) t2 (by have:=(Aj.of.1 h);show (2:Int)=a2.k;exact this.1.2.2.1.symm)).set (i:=3) (by rw [List.length_set,h.len];decide) t3 (by have:=(Aj.of.1 h);show (1:Int)=a3.k;exact this.1.2.2.2.1.symm))
def gw (l:List FV):Nat->List AV->Prop:=λ_ ws=>ws=[b_ l]
def dj {l:List FV} {B:World} {pr:Nat->Prop} {E:Ag} {w:World} {us:List Value} (h:∀(i:Nat) (a:AV),[VARS,b_ l][i]? =some a->E.sy (64+i)=some a) (hr:Ao B pr E (Fg.ent.heap 64) w) (hc:Ah E (CE 64 (DB Fg.ent.slots)) us):
  Ao B pr E H0 w/\Ah E [VARS,.sym 65] us:=by
 refine ⟨hr,?_⟩;have e:CE 64 (DB Fg.ent.slots)=[.sym 64,.sym 65]:=by kernel_rfl
 rw [e]at hc;have e2:[VARS,AV.sym 65]=EP 0 VARS [.sym 64,.sym 65]:=rfl;rw [e2];refine KT (a:=.sym 64) (λv hv=>?_) 0 _ _ rfl hc;obtain ⟨a,h1,_,h3⟩:=hv;have:=h 0 VARS rfl;rw [h1]at this;cases this;exact h3.con
def Xb {l:List FV} (h:l.length=21):∃r,b_ l=.vsl 21 3 r/\(XOp.bin .eql 34 false true).run Tryz.prog [b_ l,.nsl]=some (.bool false):=by
 cases l with
 |nil=>cases h
 |cons a r=>have h:r.length+1=21:=h;refine ⟨Ay f_ (a::r),by show AV.vsl (r.length+1) 3 _=_;rw [h],by kernel_rfl⟩
def Y3 (l:List FV):(XOp.len 34).run Tryz.prog [b_ l]=some (.int .i64 (l.length:Int)):=(SlV.of (enc:=f_) (w:=3) l).len Tryz.underlying34
def Xf {l:List FV} (h:l.length=21):(XOp.app 3 24).run Tryz.prog [.vsl 0 3 [],b_ l]=some (b_ l):=by have:=YA (l:=l) FL (by decide) (by decide) (b:=24) (SlV.of (enc:=f_) (w:=3) l) (by omega);exact this.trans (congrArg some (ca (λe=>by rw [e]at h;cases h)))
def gv {Y:Sy} {i j:Nat} {l l':List FV} (h1:Y.v i=some (b_ l)) (h2:Y.v j=some (b_ l')) (h:l.length=21) (h':l'.length=21):(DF.same i j).ok Y:=by obtain ⟨r,e,_⟩:=Xb h;obtain ⟨r',e',_⟩:=Xb h';rw [e]at h1;rw [e']at h2;exact .inr ⟨21,3,_,_,h1,h2⟩
def ml {l:List FV} (h:Aj l):A6 43 Fg [VARS,b_ l] (gw (Ff l)):=by
 have hl:=h.len;have hl2:(l.set 2 ⟨2,7,some 0⟩).length=21:=by rw [List.length_set];exact hl
 refine K6 (c:=vO) (ex:=[]) (ag:=[VARS,.sym 65]) (H:=H0) (n:=300) (t:=jA) mo ov rfl (λY=>Ck _) rfl (λB pr E w us h _ hr hc=>dj h hr hc) (by kernel_rfl) λY hf hg=>?_;unfold jA;obtain ⟨_,_,hnn⟩:=Xb hl;refine Aa (Y3 l) rfl (Aa (Av ..) rfl (AC rfl (λhc=>?_) (λ_=>?_)));have hc:(!decide ((l.length:Int)=21))=true:=hc;rw [AX (by omega)]at hc;cases hc;refine Aa hnn rfl (AC (t:=false) rfl (λh=>by cases h) (λ_=>?_));refine Aa (Xf hl) (x_ _) (Aa (D_ l (i:=2) (by omega)) rfl (Aa (J3 l (i:=2) (by omega) ⟨2,7,some 0⟩) (x_ _) (Aa (D_ l (i:=3) (by omega)) rfl (Aa (J3 _ (i:=3) (by omega) ⟨1,1,some 0⟩) (x_ _) (Cg (gv rfl rfl hl (fO h)) ?_)))));exact Ai (by show Ak [b_ _]=true;simp only [Ak,x_]) rfl
def jR {l:List FV} (h:Aj l):A6 21 Ov [VARS,b_ l] (gw (Ff l)):=by
 have hl:=h.len;have hl2:(l.set 2 ⟨2,7,some 0⟩).length=21:=by rw [List.length_set];exact hl
 refine K6 (c:=vx) (ex:=[]) (ag:=[VARS,.sym 65]) (H:=H0) (n:=300) (t:=fu) mo ov rfl (λY=>Ck _) rfl (λB pr E w us h _ hr hc=>dj h hr hc) (by kernel_rfl) λY hf hg=>?_;unfold fu;refine Aa (Y3 l) rfl (Aa (Av ..) rfl (AC rfl (λhc=>?_) (λ_=>?_)));have hc:(!decide ((l.length:Int)=21))=true:=hc;rw [AX (by omega)]at hc;cases hc;refine Aa (Xf hl) (x_ _) (Aa (D_ l (i:=2) (by omega)) rfl (Aa (J3 l (i:=2) (by omega) ⟨2,7,some 0⟩) (x_ _) (Aa (D_ l (i:=3) (by omega)) rfl (Aa (J3 _ (i:=3) (by omega) ⟨1,1,some 0⟩) (x_ _) (Cg (gv rfl rfl hl (fO h)) ?_)))));exact Ai (by show Ak [b_ _]=true;simp only [Ak,x_]) rfl
def HZ (s:SS) (now:Int):SS:=if s.err=0 then { s with m:=Sw s.im now } else s
def KC (s:SS) (st:AV):AV:=if s.err=0 then .nsl else st
def qO {s:SS} {st:AV} (now:Int) (h:St s.m.st st):St (HZ s now).m.st (KC s st):=by unfold HZ KC;split;exact So;exact h
def pB {x st:AV} (s:SS) (now:Int) (hx:okC x=true) (hs:okC st=true):Ak (Fq x (HZ s now) (KC s st))=true:=Hp _ hx (by unfold KC;split;rfl;exact hs)
def uu {l:List GI} {x:AV} (hx:SlV n_ 7 l x) (hl:l.length<=1000000) {s:SS} {st:AV} (hs:St s.m.st st) (h:Gq s) (hm:Aj s.im) (now:Int):AQ 13 [.agg (Fq x s st),.int .i64 now] (.agg (Fq x (HZ s now) (KC s st))):=by have okx:=hx.ok Cx;refine BV [some 13,none] (Fq x s st++[.int .i64 now]) uJ OG rfl (A5.okL_join (Hp s okx hs.okC) rfl) (Xa (pB s now okx hs.okC)) rfl rfl (by kernel_rfl) λY hf hg=>?_;unfold OG;refine Ar (WM hx hl hs h) rfl (Hp s okx hs.okC) (Aa (Aw ..) rfl (AC rfl (λh0=>?_) (λh0=>As ?_)));have h0:s.err=0:=dT h0;refine Ar (qB hm now) rfl (by show Ak [b_ s.im,.int .i64 now]=true;simp only [Ak,okC,x_]) (As ?_);show AV.agg _=_;unfold HZ KC;rw [Ad h0,Ad h0];rfl;have h0:¬s.err=0:=dF h0;unfold HZ KC;rw [Ab h0,Ab h0];rfl
def onS (s:SS):Prop:=s.err=0/\s.m.over=false
def mS (l:List GI) (s:SS):MS:=if s.most<=s.m.used then { s.m with err:=8 } else e_ l s.m
def P_ (l:List GI) (s:SS):SS:=
 if s.err≠0\/s.m.over=true then s
 else if (mS l s).over=true then { s with im:=(mS l s).mem,m:=mS l s,n:=IntKind.i64.wrap (s.n+1) }
 else if (mS l s).err≠0 then { s with im:=Ff s.im,m:=mS l s,err:=(mS l s).err,n:=IntKind.i64.wrap (s.n+1) }
 else { s with m:=mS l s }
def Dz (l:List GI) (s:SS):Bool:=if s.err≠0\/s.m.over=true then true else decide ((mS l s).over=true\/(mS l s).err≠0)
structure G7 (l:List GI) (T:List (List Int)) (s:SS):Prop where
 im:Aj s.im
 st:s.m.st.length<=1000
 mem:s.m.mem.length<=1000
 now: -9223372036854775808<=s.m.now/\s.m.now<=9223372036854775807
 used:0<=s.m.used/\s.m.used<=100000
 most:s.most<=100000
 mt:s.err=0->s.m.over=false->Hq l T s.m/\s.m.err=0
def rh (x:AV) (s:SS) (due:Bool):Nat->List AV->Prop:=λ_ ws=>∃st,St s.m.st st/\ws=Fq x s st++[.bool due]
def G7.small {l:List GI} {T:List (List Int)} {s:SS} (h:G7 l T s):Gq s:=⟨by have:=h.im.len;omega,h.st,h.mem⟩
def NE {x st:AV} (s:SS) (b:Bool) (hx:okC x=true) (hs:okC st=true):Ak (Fq x s st++[.bool b])=true:=A5.okL_join (Hp s hx hs) rfl
def jt {l:List GI} {s:SS} (h:s.most<=s.m.used):mS l s={ s.m with err:=8 }:=Ad h
def oM {l:List GI} {s:SS} (h:¬s.most<=s.m.used):mS l s=e_ l s.m:=Ab h
def p15 {l:List GI} {T:List (List Int)} (hG:Au T 0 l) (hl:l.length<=400) (hlen:T.length=l.length) {s:SS} {st:AV} (hs:St s.m.st st) (h:G7 l T s):A6 15 Mn (Fq (m_ l) s st) (rh (m_ l) (P_ l s) (Dz l s)):=by
 have okx:okC (m_ l)=true:=okI l;have okv:okC VARS=true:=by kernel_rfl
 have hx:SlV n_ 7 l (m_ l):=SlV.of l;refine BU UG MB rfl rfl (by kernel_rfl) λY hf hg=>?_;unfold MB;refine Ar (WM hx (by omega) hs h.small) rfl (Hp s okx hs.okC) (Aa (Av ..) rfl (AC rfl (λh0=>?_) (λh0=>?_)));have h0:(!decide (s.err=0))=true:=h0;have h0:s.err≠0:=(by simpa using h0);have e1:P_ l s=s:=Ad (.inl h0);have e2:Dz l s=true:=Ad (.inl h0);rw [e1,e2];exact Ai (NE s true okx hs.okC) ⟨st,hs,rfl⟩;have h0:(!decide (s.err=0))=false:=h0;have h0:s.err=0:=by simpa using h0
 refine AC rfl (λho=>?_) (λho=>?_);have e1:P_ l s=s:=Ad (.inr ho);have e2:Dz l s=true:=Ad (.inr ho);rw [e1,e2];exact Ai (NE s true okx hs.okC) ⟨st,hs,rfl⟩;have ho:s.m.over=false:=ho;have hon:¬(s.err≠0\/s.m.over=true):=by rw [h0,ho];simp
 obtain ⟨hmt,hme⟩:=h.mt h0 ho;have oki:∀l:List FV,Ak [VARS,b_ l]=true:=λl=>by simp only [Ak,okv,x_]
 refine Aa (Ba ..) rfl (AC rfl (λhu=>?_) (λhu=>?_));have hu:s.most<=s.m.used:=dT hu;have em:=jt (l:=l) hu;refine AC (t:=false) (by show _=some (AV.bool false);rw [←ho];rfl) (λh=>by cases h) (λ_=>?_);have e1:P_ l s={ s with im:=Ff s.im,m:={ s.m with err:=8 },err:=8,n:=IntKind.i64.wrap (s.n+1) }:=(by unfold P_;rw [Ab hon,em,Ab (by show ¬s.m.over=true;rw [ho];decide),Ad (by show (8:Int)≠0;decide)]);have e2:Dz l s=true:=(by unfold Dz;rw [Ab hon,em];exact AX (.inr (by show (8:Int)≠0;decide)));rw [e1,e2];refine a_ (ml h.im) rfl (oki _) ⟨?_,trivial⟩;rintro ws rfl;refine Aa (A9 ..) rfl (Ai ?_ ⟨st,hs,?_⟩);exact NE { s with im:=Ff s.im,m:={ s.m with err:=8 },err:=8,n:=IntKind.i64.wrap (s.n+1) } true okx hs.okC;rfl;have hu:¬s.most<=s.m.used:=dF hu;have em:=oM (l:=l) hu;refine a_ (p41 hG h.now hl (by have:=h.used;omega) hmt hs) rfl (qp l hs (r:=[]) rfl) ⟨?_,trivial⟩;rintro ws ⟨st',hs',rfl⟩;refine AC rfl (λho'=>?_) (λho'=>?_);have ho':(e_ l s.m).over=true:=ho';have e1:P_ l s={ s with im:=(e_ l s.m).mem,m:=e_ l s.m,n:=IntKind.i64.wrap (s.n+1) }:=(by unfold P_;rw [Ab hon,em,Ad ho']);have e2:Dz l s=true:=(by unfold Dz;rw [Ab hon,em];exact AX (.inl ho'));rw [e1,e2];have hml:=(Hq.small hG (gu hlen hG h.now hmt)).2.len;refine Ar (Tt (SlV.of (enc:=f_) (w:=3) (e_ l s.m).mem) (by omega)) rfl (by show Ak [b_ _]=true;simp only [Ak,x_]) (Aa (A9 ..) rfl (Ai ?_ ⟨st',hs',?_⟩));exact NE { s with im:=(e_ l s.m).mem,m:=e_ l s.m,n:=IntKind.i64.wrap (s.n+1) } true okx hs'.okC;rfl;have ho':(e_ l s.m).over=false:=ho';refine Aa (Av ..) rfl (AC rfl (λhe=>?_) (λhe=>?_));have he:(!decide ((e_ l s.m).err=0))=true:=he;have he:(e_ l s.m).err≠0:=(by simpa using he);have e1:P_ l s={ s with im:=Ff s.im,m:=e_ l s.m,err:=(e_ l s.m).err,n:=IntKind.i64.wrap (s.n+1) }:=(by unfold P_;rw [Ab hon,em,Ab (by rw [ho'];decide),Ad he]);have e2:Dz l s=true:=(by unfold Dz;rw [Ab hon,em];exact AX (.inr he));rw [e1,e2];refine a_ (ml h.im) rfl (oki _) ⟨?_,trivial⟩;rintro ws rfl;refine Aa (A9 ..) rfl (Ai ?_ ⟨st',hs',?_⟩);exact NE { s with im:=Ff s.im,m:=e_ l s.m,err:=(e_ l s.m).err,n:=IntKind.i64.wrap (s.n+1) } true okx hs'.okC;rfl;have he:(!decide ((e_ l s.m).err=0))=false:=he;have he:(e_ l s.m).err=0:=by simpa using he
 have e1:P_ l s={ s with m:=e_ l s.m }:=by unfold P_;rw [Ab hon,em,Ab (by rw [ho'];decide),Ab (by rw [he];decide)]
 have e2:Dz l s=false:=by unfold Dz;rw [Ab hon,em];exact Bk (by rw [ho',he];simp)
 rw [e1,e2];exact Ai (NE { s with m:=e_ l s.m } false okx hs'.okC) ⟨st',hs',rfl⟩
namespace Beg
abbrev G (l:List (FuncId×List AV×AV)):Gl:=OH NM UX l
def o0: @ES (G []) Tryz.prog:=jy NM UX Tryz.prog
def z4:AV:=.int .i64 1
def z9:AV:=.int .i64 2
def z5:AV:=.int .i64 0
def z6:AV:=.flt .f64 0
def z7:AV:=.int .i64 3
def z8:AV:=.int .i64 5
def z0:AV:=.agg [.vsl 7 10 [.str [97],z4,z9,z5,z9,z5,z6,z5,z5,z6,.str [98],z4,z4,z5,z4,z5,z6,z5,z5,z6,.str [111],z9,z9,z5,z9,z4,z6,z9,.int .i64 9,z6,.str [110],z7,z9,z5,z9,z5,z6,z5,z5,z6,.str [120],z7,z9,z5,z9,z5,z6,z5,z5,z6,.str [114],z7,z8,z5,z8,z5,z6,z5,z5,z6,.str [107],z7,z9,z7,z9,z5,z6,z5,z5,z6],.vsl 4 27 [z4,z9,z9,.str [110],.str [],z7,z5,z5,z5,z6,.nsl,.int .i64 4,z9,.str [],.str [],z5,z5,z5,z5,z6,.vsl 2 10 [z9,z9,.str [110],.str [],z7,z5,z5,z5,z6,.nsl,z4,z9,.str [],.str [],z5,z5,z9,z4,z6,.nsl],.nsl,.nsl,.str [],z5,z5,.nsl,z4,z9,z9,.str [111],.str [],z9,z5,z5,z5,z6,.nsl,.int .i64 4,z9,.str [],.str [],z5,z5,z5,z5,z6,.vsl 2 10 [z9,z9,.str [120],.str [],.int .i64 4,z5,z5,z5,z6,.nsl,z9,z9,.str [97],.str [],z5,z5,z5,z5,z6,.nsl],.nsl,.nsl,.str [],z5,z5,.nsl,z9,z5,z5,.str [],.str [],z5,z5,z5,z5,z6,.nsl,z9,z4,.str [98],.str [],z4,z5,z5,z5,z6,.nsl,.vsl 1 27 [z4,z7,z9,.str [107],.str [],.int .i64 6,z7,z5,z5,z6,.vsl 1 10 [z9,z9,.str [120],.str [],.int .i64 4,z5,z5,z5,z6,.nsl],z9,z9,.str [97],.str [],z5,z5,z5,z5,z6,.nsl,.nsl,.nsl,.str [],z5,z5,.nsl],.nsl,.str [],z5,z5,.nsl,z4,z9,z8,.str [114],.str [],z8,z5,z5,z5,z6,.nsl,.int .i64 4,z8,.str [],.str [],z5,z5,z5,z5,z6,.vsl 2 10 [z9,z8,.str [114],.str [],z8,z5,z5,z5,z6,.nsl,z4,z8,.str [],.str [],z5,z5,z8,z5,.flt .f64 4602678819172646912,.nsl],.nsl,.nsl,.str [],z5,z5,.nsl]]
def z1:AV:=.vsl 18 7 [z9,z5,z7,z5,z5,z5,z6,z4,z9,z5,z5,z9,z4,z6,.int .i64 4,z9,z5,z5,z5,z5,z6,.int .i64 18,z5,z7,z5,z5,z5,z6,z9,z5,.int .i64 4,z5,z5,z5,z6,z9,z5,z5,z5,z5,z5,z6,.int .i64 4,z9,z5,z5,z5,z5,z6,.int .i64 18,z5,z9,z5,z5,z5,z6,z9,z5,z4,z5,z5,z5,z6,.int .i64 21,z5,.int .i64 13,z5,z5,z5,z6,z9,z5,z5,z5,z5,z5,z6,z9,z5,.int .i64 4,z5,z5,z5,z6,.int .i64 19,z5,.int .i64 6,z7,z5,z5,z6,z9,z5,z8,z5,z5,z5,z6,z4,z8,z5,z5,z8,z5,.flt .f64 4602678819172646912,.int .i64 4,z8,z5,z5,z5,z5,z6,.int .i64 18,z5,z8,z5,z5,z5,z6,.int .i64 23,z5,z5,z5,z5,z5,z6]
def z2:AV:=.agg [.vsl 7 10 [.str [97],z4,z9,z5,z9,z5,z6,z5,z5,z6,.str [98],z4,z4,z5,z4,z5,z6,z5,z5,z6,.str [111],z9,z9,z5,z9,z4,z6,z9,.int .i64 9,z6,.str [110],z7,z9,z5,z9,z5,z6,z5,z5,z6,.str [120],z7,z9,z5,z9,z5,z6,z5,z5,z6,.str [114],z7,z8,z5,z8,z5,z6,z5,z5,z6,.str [107],z7,z9,z7,z9,z5,z6,z5,z5,z6],.vsl 4 27 [z4,z9,z5,.str [110],.str [],z5,z5,z5,z5,z6,.nsl,.int .i64 4,z5,.str [],.str [],z5,z5,z5,z5,z6,.vsl 2 10 [z9,z5,.str [110],.str [],z5,z5,z5,z5,z6,.nsl,z4,z5,.str [],.str [],z5,z5,z7,z4,z6,.nsl],.nsl,.nsl,.str [],z5,z5,.nsl,z4,z9,z5,.str [111],.str [],z5,z5,z5,z5,z6,.nsl,.int .i64 4,z5,.str [],.str [],z5,z5,z5,z5,z6,.vsl 2 10 [z9,z5,.str [120],.str [],z5,z5,z5,z5,z6,.nsl,z9,z5,.str [97],.str [],z5,z5,z5,z5,z6,.nsl],.nsl,.nsl,.str [],z5,z5,.nsl,z9,z5,z5,.str [],.str [],z5,z5,z5,z5,z6,.nsl,z9,z5,.str [98],.str [],z5,z5,z5,z5,z6,.nsl,.vsl 1 27 [z4,z7,z5,.str [107],.str [],z5,z5,z5,z5,z6,.vsl 1 10 [z9,z5,.str [120],.str [],z5,z5,z5,z5,z6,.nsl],z9,z5,.str [97],.str [],z5,z5,z5,z5,z6,.nsl,.nsl,.nsl,.str [],z5,z5,.nsl],.nsl,.str [],z5,z5,.nsl,z4,z9,z5,.str [114],.str [],z5,z5,z5,z5,z6,.nsl,.int .i64 4,z5,.str [],.str [],z5,z5,z5,z5,z6,.vsl 2 10 [z9,z5,.str [114],.str [],z5,z5,z5,z5,z6,.nsl,z4,z5,.str [],.str [],z5,z5,z8,z5,.flt .f64 4602678819172646912,.nsl],.nsl,.nsl,.str [],z5,z5,.nsl]]
def z3:AV:=.str [105,110,32,97,32,58,32,105,110,116,59,32,105,110,32,98,32,58,32,98,111,111,108,59,32,111,117,116,32,111,32,58,32,105,110,116,32,58,61,32,49,44,32,57,59,32,118,97,114,32,110,32,58,32,105,110,116,59,32,118,97,114,32,120,32,58,32,105,110,116,59,32,118,97,114,32,114,32,58,32,114,101,97,108,59,32,118,97,114,32,107,32,58,32,105,110,116,91,51,93,59,32,110,32,58,61,32,110,32,43,32,49,59,32,111,32,58,61,32,120,32,43,32,97,59,32,105,102,32,98,32,116,104,101,110,32,107,91,120,93,32,58,61,32,97,59,32,101,110,100,32,114,32,58,61,32,114,32,43,32,48,46,53,59]
def a0:List AV:=[]
def v0:AV:=z3
theorem e0: @I3 (G []) Tryz.prog 3000 53 a0 v0=true:=by kernel_rfl
def l1:List (FuncId×List AV×AV):=(53,a0,v0)::[]
def o1: @ES (G l1) Tryz.prog:=LT o0 (@Cj (G []) Tryz.prog mo o0 3000 53 a0 v0 e0)
def a1:List AV:=[z3]
def v1:AV:=.tup [.vsl 71 5 [z4,.str [105,110],z5,z6,z5,z4,.str [97],z5,z6,z7,z8,.str [58],z5,z6,z8,z4,.str [105,110,116],z5,z6,.int .i64 7,z8,.str [59],z5,z6,.int .i64 10,z4,.str [105,110],z5,z6,.int .i64 12,z4,.str [98],z5,z6,.int .i64 15,z8,.str [58],z5,z6,.int .i64 17,z4,.str [98,111,111,108],z5,z6,.int .i64 19,z8,.str [59],z5,z6,.int .i64 23,z4,.str [111,117,116],z5,z6,.int .i64 25,z4,.str [111],z5,z6,.int .i64 29,z8,.str [58],z5,z6,.int .i64 31,z4,.str [105,110,116],z5,z6,.int .i64 33,z8,.str [58,61],z5,z6,.int .i64 37,z9,.str [],z4,z6,.int .i64 40,z8,.str [44],z5,z6,.int .i64 41,z9,.str [],.int .i64 9,z6,.int .i64 43,z8,.str [59],z5,z6,.int .i64 44,z4,.str [118,97,114],z5,z6,.int .i64 46,z4,.str [110],z5,z6,.int .i64 50,z8,.str [58],z5,z6,.int .i64 52,z4,.str [105,110,116],z5,z6,.int .i64 54,z8,.str [59],z5,z6,.int .i64 57,z4,.str [118,97,114],z5,z6,.int .i64 59,z4,.str [120],z5,z6,.int .i64 63,z8,.str [58],z5,z6,.int .i64 65,z4,.str [105,110,116],z5,z6,.int .i64 67,z8,.str [59],z5,z6,.int .i64 70,z4,.str [118,97,114],z5,z6,.int .i64 72,z4,.str [114],z5,z6,.int .i64 76,z8,.str [58],z5,z6,.int .i64 78,z4,.str [114,101,97,108],z5,z6,.int .i64 80,z8,.str [59],z5,z6,.int .i64 84,z4,.str [118,97,114],z5,z6,.int .i64 86,z4,.str [107],z5,z6,.int .i64 90,z8,.str [58],z5,z6,.int .i64 92,z4,.str [105,110,116],z5,z6,.int .i64 94,z8,.str [91],z5,z6,.int .i64 97,z9,.str [],z7,z6,.int .i64 98,z8,.str [93],z5,z6,.int .i64 99,z8,.str [59],z5,z6,.int .i64 100,z4,.str [110],z5,z6,.int .i64 102,z8,.str [58,61],z5,z6,.int .i64 104,z4,.str [110],z5,z6,.int .i64 107,z8,.str [43],z5,z6,.int .i64 109,z9,.str [],z4,z6,.int .i64 111,z8,.str [59],z5,z6,.int .i64 112,z4,.str [111],z5,z6,.int .i64 114,z8,.str [58,61],z5,z6,.int .i64 116,z4,.str [120],z5,z6,.int .i64 119,z8,.str [43],z5,z6,.int .i64 121,z4,.str [97],z5,z6,.int .i64 123,z8,.str [59],z5,z6,.int .i64 124,z4,.str [105,102],z5,z6,.int .i64 126,z4,.str [98],z5,z6,.int .i64 129,z4,.str [116,104,101,110],z5,z6,.int .i64 131,z4,.str [107],z5,z6,.int .i64 136,z8,.str [91],z5,z6,.int .i64 137,z4,.str [120],z5,z6,.int .i64 138,z8,.str [93],z5,z6,.int .i64 139,z8,.str [58,61],z5,z6,.int .i64 141,z4,.str [97],z5,z6,.int .i64 144,z8,.str [59],z5,z6,.int .i64 145,z4,.str [101,110,100],z5,z6,.int .i64 147,z4,.str [114],z5,z6,.int .i64 151,z8,.str [58,61],z5,z6,.int .i64 153,z4,.str [114],z5,z6,.int .i64 156,z8,.str [43],z5,z6,.int .i64 158,z7,.str [],z5,.flt .f64 4602678819172646912,.int .i64 160,z8,.str [59],z5,z6,.int .i64 163],z5,.bool true]
theorem e1: @I3 (G l1) Tryz.prog 3000 91 a1 v1=true:=by kernel_rfl
def l2:List (FuncId×List AV×AV):=(91,a1,v1)::l1
def o2: @ES (G l2) Tryz.prog:=LT o1 (@Cj (G l1) Tryz.prog mo o1 3000 91 a1 v1 e1)
def a2:List AV:=[z3]
def v2:AV:=.tup [z2,z5,.bool true]
theorem e2: @I3 (G l2) Tryz.prog 3000 52 a2 v2=true:=by kernel_rfl
def l3:List (FuncId×List AV×AV):=(52,a2,v2)::l2
def o3: @ES (G l3) Tryz.prog:=LT o2 (@Cj (G l2) Tryz.prog mo o2 3000 52 a2 v2 e2)
def a3:List AV:=[z2]
def v3:AV:=.tup [z0,z5]
theorem e3: @I3 (G l3) Tryz.prog 3000 23 a3 v3=true:=by kernel_rfl
def l4:List (FuncId×List AV×AV):=(23,a3,v3)::l3
def o4: @ES (G l4) Tryz.prog:=LT o3 (@Cj (G l3) Tryz.prog mo o3 3000 23 a3 v3 e3)
def a4:List AV:=[z0]
def v4:AV:=.tup [z1,z5]
theorem e4: @I3 (G l4) Tryz.prog 3000 9 a4 v4=true:=by kernel_rfl
def l5:List (FuncId×List AV×AV):=(9,a4,v4)::l4
def o5: @ES (G l5) Tryz.prog:=LT o4 (@Cj (G l4) Tryz.prog mo o4 3000 9 a4 v4 e4)
def a5:List AV:=[]
def v5:AV:=.tup [z0,z1]
theorem e5: @I3 (G l5) Tryz.prog 3000 22 a5 v5=true:=by kernel_rfl
def l6:List (FuncId×List AV×AV):=(22,a5,v5)::l5
def o6: @ES (G l6) Tryz.prog:=LT o5 (@Cj (G l5) Tryz.prog mo o5 3000 22 a5 v5 e5)
def a6:List AV:=[z0,z1,.int .i64 100]
def v6:AV:=.tup [.agg [.vsl 7 10 [.str [97],z4,z9,z5,z9,z5,z6,z5,z5,z6,.str [98],z4,z4,z5,z4,z5,z6,z5,z5,z6,.str [111],z9,z9,z5,z9,z4,z6,z9,.int .i64 9,z6,.str [110],z7,z9,z5,z9,z5,z6,z5,z5,z6,.str [120],z7,z9,z5,z9,z5,z6,z5,z5,z6,.str [114],z7,z8,z5,z8,z5,z6,z5,z5,z6,.str [107],z7,z9,z7,z9,z5,z6,z5,z5,z6],z1,.int .i64 100,.vsl 9 3 [z9,z5,z6,z4,z5,z6,z9,z4,z6,z9,z5,z6,z9,z5,z6,z8,z5,z6,z9,z5,z6,z9,z5,z6,z9,z5,z6],z5,.nsl,.nsl,z5,z5,.bool true,z5,z5,z5],z5]
theorem e6: @I3 (G l6) Tryz.prog 3000 10 a6 v6=true:=by kernel_rfl
def l7:List (FuncId×List AV×AV):=(10,a6,v6)::l6
def o7: @ES (G l7) Tryz.prog:=LT o6 (@Cj (G l6) Tryz.prog mo o6 3000 10 a6 v6 e6)
theorem eb: @I3 (G l7) Tryz.prog 3000 7 [] (.bool true)=true:=by kernel_rfl
end Beg
def k7:AQ 7 [] (.bool true):= @Cj (Beg.G Beg.l7) Tryz.prog mo Beg.o7 3000 7 [] (.bool true) Beg.eb
end Go.Proofs.YtelnbodnjmldeaaGreat.vars
