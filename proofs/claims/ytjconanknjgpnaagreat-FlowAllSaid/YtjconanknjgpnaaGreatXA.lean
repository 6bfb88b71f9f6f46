/-
  What statements do to cells: cp_.
-/
import Derived.Test.YtjconanknjgpnaaGreatFA
import Derived.Test.YtjconanknjgpnaaGreatSzB
import Derived.Test.YtjconanknjgpnaaGreatSyS
set_option maxRecDepth 100000
set_option linter.unusedVariables false
set_option linter.unusedSimpArgs false
namespace Go.Proofs.YtjconanknjgpnaaGreat.vars
open Go Go.Sx
structure RSt where
 mem:List FV
 left:Int
 e:Int
def U_ (now at_ pt:Int):Int:=if now<=at_ then 0 else min (now-at_) pt
def bv (b:Bool):FV:=⟨1,tI b,some 0⟩
def tv (i:Int):FV:=⟨4,i,some 0⟩
def nv (i:Int):FV:=⟨2,i,some 0⟩
def q0_ (on at_:Int) (inn:Bool) (v now:Int):List FV:=
 if inn=false then [bv false,tv 0,bv false,tv 0]
 else if on=0 then [bv (decide (0=max v 0)),tv 0,bv true,tv now]
 else [bv (decide (U_ now at_ (max v 0)=max v 0)),tv (U_ now at_ (max v 0)),bv true,tv at_]
def nw_ (cv was:Int) (inn:Bool) (v:Int):List FV:=
 let c:=if inn=true/\was=0 then min (cv+1) 32767 else cv
 [bv (decide (v<=c)),nv c,bv inn]
def V_ (was:Int) (inn:Bool):List FV:=[bv (inn&&decide (was=0)),bv inn]
def wm_ (mem:List FV) (at_:Nat) (cs:List FV):List FV:=mem.take at_++(cs++mem.drop (at_+cs.length))
def ci_ (mem:List FV) (n:Nat):Int:=(mem.getD n FV.z).i
def z_ (now kd:Int) (mem:List FV) (inn:Bool) (v:Int):List FV:=
 if kd=6 then wm_ mem 12 (q0_ (ci_ mem 14) (ci_ mem 15) inn v now)
 else if kd=9 then wm_ mem 16 (nw_ (ci_ mem 17) (ci_ mem 18) inn v)
 else wm_ mem 19 (V_ (ci_ mem 20) inn)
def N_ (mem:List FV):GX->Except Int Int
 | .mk op kd nm fd ad n vk vi vf args=>match i_ mem args with
   | .error e=>.error e
   | .ok l=>if (l.headD FV.z).i<0\/n<=(l.headD FV.z).i then .error 6 else .ok (ad+(l.headD FV.z).i)
def vu_ (to e:GX) (mem:List FV) (left:Int):RSt:=match f_ mem e with
 | .error er=>⟨mem,left,er⟩
 | .ok v=>if to.op=3 then (match N_ mem to with
     | .error er=>⟨mem,left,er⟩
     | .ok a=>⟨mem.set a.toNat v,left,0⟩)
   else ⟨mem.set to.ad.toNat v,left,0⟩
def K_ (now kd:Int) (args:List GX) (mem:List FV) (left:Int):RSt:=match i_ mem args with
 | .error er=>⟨mem,left,er⟩
 | .ok l=>⟨z_ now kd mem (decide ((l.headD FV.z).i≠0)) (l.tail.headD FV.z).i,left,0⟩
def J_ (f:GS->List FV->Int->RSt):List GS->List FV->Int->RSt
 |[],mem,left=>⟨mem,left,0⟩
 |s::r,mem,left=>if (f s mem left).e=0 then J_ f r (f s mem left).mem (f s mem left).left else f s mem left
def v9_ (body:List FV->Int->RSt) (c:List FV->Except Int FV):Nat->List FV->Int->RSt
 |0,mem,left=>⟨mem,left,8⟩
 |n+1,mem,left=>if left-1<0 then ⟨mem,left-1,8⟩else match c mem with
  | .error e=>⟨mem,left-1,e⟩
  | .ok v=>if v.i=0 then ⟨mem,left-1,0⟩else if (body mem (left-1)).e=0 then v9_ body c n (body mem (left-1)).mem (body mem (left-1)).left else body mem (left-1)
def j_ (now:Int):Nat->GS->List FV->Int->RSt
 |0,_,mem,left=>⟨mem,left,8⟩
 |d+1,.mk op to e thn els nm kd ad args,mem,left=>
  if op=1 then vu_ to e mem left
  else if op=2 then (match f_ mem e with
   | .error er=>⟨mem,left,er⟩
   | .ok v=>J_ (j_ now d) (if v.i≠0 then thn else els) mem left)
  else if op=3 then v9_ (J_ (j_ now d) thn) (λm=>f_ m e) (left.toNat+1) mem left
  else K_ now kd args mem left
def Kept (mem:List FV) (left:Int) (r:RSt):Prop:=MemOk r.mem/\(r.e=0\/r.e=5\/r.e=6\/r.e=7\/r.e=8)/\(r.e=0->0<=r.left/\r.left<=left)/\r.mem[0]? =mem[0]? /\r.mem[1]? =mem[1]?
theorem Kept.refl {mem:List FV} (hm:MemOk mem) {left:Int} (h:0<=left):Kept mem left ⟨mem,left,0⟩:=⟨hm,.inl rfl,λ_=>⟨h,Int.le_refl _⟩,rfl,rfl⟩
theorem Kept.err {mem:List FV} (hm:MemOk mem) {left l:Int} {e:Int} (he:e=5\/e=6\/e=7\/e=8):Kept mem left ⟨mem,l,e⟩:=⟨hm,.inr he,λh=>by have h:e=0:=h;omega,rfl,rfl⟩
theorem MemOk.kd {mem:List FV} (h:MemOk mem) {i:Nat} (hi:i<mem.length):mem[i].k=sZ_.getD i 0:=by rw [←h.1,List.getD_eq_getElem?_getD,List.getElem?_map,List.getElem?_eq_getElem hi];rfl
theorem wr_k:∀t∈wrL,2<=t.1/\t.1<21/\sZ_.getD t.1.toNat 0=t.2:=by decide
theorem xe_ {mem:List FV} (hm:MemOk mem) {left:Int} (hl:0<=left) {a:Int} {v:FV} (h1:2<=a) (h2:a<21) (hv:TV v) (hk:sZ_.getD a.toNat 0=v.k):Kept mem left ⟨mem.set a.toNat v,left,0⟩:=by
 have hlen:=hm.len;have hi:a.toNat<mem.length:=by omega
 refine ⟨hm.set hi hv (by rw [hm.kd hi,hk]),.inl rfl,λ_=>⟨hl,Int.le_refl _⟩,?_,?_⟩;show (mem.set a.toNat v)[0]? =_;rw [List.getElem?_set_ne (by omega)];show (mem.set a.toNat v)[1]? =_;rw [List.getElem?_set_ne (by omega)]
theorem vI_ {mem:List FV} {d:Nat} {to:GX} (ht:TX d to) (ho:to.op=3) {a:Int} (h:N_ mem to=.ok a):8<=a/\a<12/\to.kd=2:=by
 obtain ⟨op,kd,nm,fd,ad,n,vk,vi,vf,args⟩:=to;cases d with
 |zero=>exact ht.elim
 |succ d=>obtain ⟨q1,q2,q3,_⟩:=ht.2.2.2.2.1.2.2.1 ho;simp only [N_]at h;split at h;cases h;split at h;cases h;cases h;exact ⟨by omega,by omega,q3⟩
theorem ye_ {mem:List FV} {to:GX} {e:Int} (h:N_ mem to=.error e):e=5\/e=6\/e=7\/e=8:=by obtain ⟨op,kd,nm,fd,ad,n,vk,vi,vf,args⟩:=to;simp only [N_]at h;split at h;rename_i e' he;cases h;have:=o0_ _ _ he;omega;split at h;cases h;omega;cases h
theorem wK_ {mem:List FV} (hm:MemOk mem) {left:Int} (hl:0<=left) {to e:GX} (ht:TX 5 to) (hw:to.op=2/\(to.ad,to.kd)∈wrL\/to.op=3) (he:TX 6 e) (hk:e.kd=to.kd):Kept mem left (vu_ to e mem left):=by
 unfold vu_;split;rename_i er her;have:=h_ _ _ her;exact Kept.err hm (by omega)
 .rename_i v hv;obtain ⟨tv,vk⟩:=R_ hm 6 e he v hv;split
  .rename_i h3;split;rename_i er her;exact Kept.err hm (ye_ her)
   .rename_i a ha;obtain ⟨p1,p2,p3⟩:=vI_ ht h3 ha;refine xe_ hm hl (by omega) (by omega) tv ?_;rw [vk,hk,p3];rcases (by omega:a=8\/a=9\/a=10\/a=11)with rfl|rfl|rfl|rfl<;>rfl
  rename_i h3;rcases hw with ⟨_,hw⟩|hw;obtain ⟨q1,q2,q3⟩:=wr_k _ hw;exact xe_ hm hl q1 q2 tv (by rw [vk,hk];exact q3);exact absurd hw h3
theorem O_ {mem:List FV} (h:mem.length=21):∃m0 m1 m2 m3 m4 m5 m6 m7 m8 m9 m10 m11 m12 m13 m14 m15 m16 m17 m18 m19 m20,mem=[m0,m1,m2,m3,m4,m5,m6,m7,m8,m9,m10,m11,m12,m13,m14,m15,m16,m17,m18,m19,m20]:=by
 rcases mem with _|⟨m0,mem⟩;· simp at h
 rcases mem with _|⟨m1,mem⟩;· simp at h
 rcases mem with _|⟨m2,mem⟩;· simp at h
 rcases mem with _|⟨m3,mem⟩;· simp at h
 rcases mem with _|⟨m4,mem⟩;· simp at h
 rcases mem with _|⟨m5,mem⟩;· simp at h
 rcases mem with _|⟨m6,mem⟩;· simp at h
 rcases mem with _|⟨m7,mem⟩;· simp at h
 rcases mem with _|⟨m8,mem⟩;· simp at h
 rcases mem with _|⟨m9,mem⟩;· simp at h
 rcases mem with _|⟨m10,mem⟩;· simp at h
 rcases mem with _|⟨m11,mem⟩;· simp at h
 rcases mem with _|⟨m12,mem⟩;· simp at h
 rcases mem with _|⟨m13,mem⟩;· simp at h
 rcases mem with _|⟨m14,mem⟩;· simp at h
 rcases mem with _|⟨m15,mem⟩;· simp at h
 rcases mem with _|⟨m16,mem⟩;· simp at h
 rcases mem with _|⟨m17,mem⟩;· simp at h
 rcases mem with _|⟨m18,mem⟩;· simp at h
 rcases mem with _|⟨m19,mem⟩;· simp at h
 rcases mem with _|⟨m20,mem⟩;· simp at h
 rcases mem with _|⟨x,mem⟩;exact ⟨_,_,_,_,_,_,_,_,_,_,_,_,_,_,_,_,_,_,_,_,_,rfl⟩;simp at h
theorem MemOk.of {m0 m1 m2 m3 m4 m5 m6 m7 m8 m9 m10 m11 m12 m13 m14 m15 m16 m17 m18 m19 m20:FV}:MemOk [m0,m1,m2,m3,m4,m5,m6,m7,m8,m9,m10,m11,m12,m13,m14,m15,m16,m17,m18,m19,m20]↔(m0.k=2/\m1.k=1/\m2.k=2/\m3.k=1/\m4.k=2/\m5.k=3/\m6.k=5/\m7.k=4/\m8.k=2/\m9.k=2/\m10.k=2/\m11.k=2/\m12.k=1/\m13.k=4/\m14.k=1/\m15.k=4/\m16.k=1/\m17.k=2/\m18.k=1/\m19.k=1/\m20.k=1)/\(TV m0/\TV m1/\TV m2/\TV m3/\TV m4/\TV m5/\TV m6/\TV m7/\TV m8/\TV m9/\TV m10/\TV m11/\TV m12/\TV m13/\TV m14/\TV m15/\TV m16/\TV m17/\TV m18/\TV m19/\TV m20):=by unfold MemOk sZ_;constructor;rintro ⟨h1,h2⟩;refine ⟨by simpa using h1,?_⟩;simpa using h2;rintro ⟨h1,h2⟩;refine ⟨by simpa using h1,?_⟩;simpa using h2
theorem vh_ (b:Bool):TV (bv b)/\(bv b).k=1:=⟨⟨vW_ b,λ_=>rfl⟩,rfl⟩
theorem wC_ {i:Int} (h1: -9223372036854775808<=i) (h2:i<=9223372036854775807):TV (tv i)/\(tv i).k=4:=⟨⟨.inr (.inr (.inr (.inl ⟨rfl,h1,h2⟩))),λ_=>rfl⟩,rfl⟩
theorem Al_ {i:Int} (h1: -32768<=i) (h2:i<=32767):TV (nv i)/\(nv i).k=2:=⟨⟨.inr (.inl ⟨rfl,h1,h2⟩),λ_=>rfl⟩,rfl⟩
theorem zm_ {now at_ pt:Int} (h:0<=pt):0<=U_ now at_ pt/\U_ now at_ pt<=pt:=by unfold U_;split<;>omega
theorem xz_ (on at_:Int) (inn:Bool) {v now:Int} (hv:v<=9223372036854775807) (hn: -9223372036854775808<=now/\now<=9223372036854775807) (ha: -9223372036854775808<=at_/\at_<=9223372036854775807):
  ∃a b c d,q0_ on at_ inn v now=[a,b,c,d]/\(TV a/\a.k=1)/\(TV b/\b.k=4)/\(TV c/\c.k=1)/\(TV d/\d.k=4):=by
 unfold q0_;split;exact ⟨_,_,_,_,rfl,vh_ _,wC_ (by omega) (by omega),vh_ _,wC_ (by omega) (by omega)⟩;split;exact ⟨_,_,_,_,rfl,vh_ _,wC_ (by omega) (by omega),vh_ _,wC_ hn.1 hn.2⟩;have:=zm_ (now:=now) (at_:=at_) (pt:=max v 0) (by omega);exact ⟨_,_,_,_,rfl,vh_ _,wC_ (by omega) (by omega),vh_ _,wC_ ha.1 ha.2⟩
theorem xl_ {cv:Int} (was:Int) (inn:Bool) (v:Int) (hc: -32768<=cv/\cv<=32767):∃a b c,nw_ cv was inn v=[a,b,c]/\(TV a/\a.k=1)/\(TV b/\b.k=2)/\(TV c/\c.k=1):=by
 refine ⟨_,_,_,rfl,vh_ _,Al_ ?_ ?_,vh_ _⟩
 .split<;>omega
 .split<;>omega
theorem wD_ {kd ad:Int} {ks:List Int} (hb:Blk kd ad ks) {mem:List FV} (hm:MemOk mem) (inn:Bool) {v now:Int} (hv:v<=9223372036854775807) (hn: -9223372036854775808<=now/\now<=9223372036854775807):
  MemOk (z_ now kd mem inn v)/\(z_ now kd mem inn v)[0]? =mem[0]? /\(z_ now kd mem inn v)[1]? =mem[1]? :=by
 obtain ⟨m0,m1,m2,m3,m4,m5,m6,m7,m8,m9,m10,m11,m12,m13,m14,m15,m16,m17,m18,m19,m20,rfl⟩:=O_ hm.len;have hm':=MemOk.of.1 hm;obtain ⟨⟨k0,k1,k2,k3,k4,k5,k6,k7,k8,k9,k10,k11,k12,k13,k14,k15,k16,k17,k18,k19,k20⟩,t0,t1,t2,t3,t4,t5,t6,t7,t8,t9,t10,t11,t12,t13,t14,t15,t16,t17,t18,t19,t20⟩:=hm';rcases hb with ⟨rfl,_⟩|⟨rfl,_⟩|⟨rfl,_⟩;have ha:=t15.1.i64;obtain ⟨a,b,c,d,e,⟨ta,ka⟩,⟨tb,kb⟩,⟨tc,kc⟩,td,kd'⟩:=xz_ m14.i m15.i inn hv hn ha;have e2:z_ now 6 [m0,m1,m2,m3,m4,m5,m6,m7,m8,m9,m10,m11,m12,m13,m14,m15,m16,m17,m18,m19,m20] inn v=[m0,m1,m2,m3,m4,m5,m6,m7,m8,m9,m10,m11,a,b,c,d,m16,m17,m18,m19,m20]:=(by show wm_ _ 12 (q0_ m14.i m15.i inn v now)=_;rw [e];rfl);rw [e2];exact ⟨MemOk.of.2 ⟨⟨k0,k1,k2,k3,k4,k5,k6,k7,k8,k9,k10,k11,ka,kb,kc,kd',k16,k17,k18,k19,k20⟩,t0,t1,t2,t3,t4,t5,t6,t7,t8,t9,t10,t11,ta,tb,tc,td,t16,t17,t18,t19,t20⟩,rfl,rfl⟩;have hc: -32768<=m17.i/\m17.i<=32767:=(by rcases t17.1 with q|q|q|q|q<;>omega);obtain ⟨a,b,c,e,⟨ta,ka⟩,⟨tb,kb⟩,tc,kc⟩:=xl_ m18.i inn v hc;have e2:z_ now 9 [m0,m1,m2,m3,m4,m5,m6,m7,m8,m9,m10,m11,m12,m13,m14,m15,m16,m17,m18,m19,m20] inn v=[m0,m1,m2,m3,m4,m5,m6,m7,m8,m9,m10,m11,m12,m13,m14,m15,a,b,c,m19,m20]:=(by show wm_ _ 16 (nw_ m17.i m18.i inn v)=_;rw [e];rfl);rw [e2];exact ⟨MemOk.of.2 ⟨⟨k0,k1,k2,k3,k4,k5,k6,k7,k8,k9,k10,k11,k12,k13,k14,k15,ka,kb,kc,k19,k20⟩,t0,t1,t2,t3,t4,t5,t6,t7,t8,t9,t10,t11,t12,t13,t14,t15,ta,tb,tc,t19,t20⟩,rfl,rfl⟩;have ⟨ta,ka⟩:=vh_ (inn&&decide (m20.i=0));have ⟨tb,kb⟩:=vh_ inn;have e2:z_ now 11 [m0,m1,m2,m3,m4,m5,m6,m7,m8,m9,m10,m11,m12,m13,m14,m15,m16,m17,m18,m19,m20] inn v=[m0,m1,m2,m3,m4,m5,m6,m7,m8,m9,m10,m11,m12,m13,m14,m15,m16,m17,m18,bv (inn&&decide (m20.i=0)),bv inn]:=rfl;rw [e2];exact ⟨MemOk.of.2 ⟨⟨k0,k1,k2,k3,k4,k5,k6,k7,k8,k9,k10,k11,k12,k13,k14,k15,k16,k17,k18,ka,kb⟩,t0,t1,t2,t3,t4,t5,t6,t7,t8,t9,t10,t11,t12,t13,t14,t15,t16,t17,t18,ta,tb⟩,rfl,rfl⟩
theorem Kept.then {mem:List FV} {left:Int} {r q:RSt} (h:Kept mem left r) (h0:r.e=0) (h2:Kept r.mem r.left q):Kept mem left q:=by obtain ⟨a1,a2,a3,a4,a5⟩:=h;obtain ⟨b1,b2,b3,b4,b5⟩:=h2;exact ⟨b1,b2,λh=>⟨(b3 h).1,Int.le_trans (b3 h).2 (a3 h0).2⟩,b4.trans a4,b5.trans a5⟩
theorem I_ {f:GS->List FV->Int->RSt}:∀(l:List GS) (mem:List FV) (left:Int),(∀s∈l,∀mem left,MemOk mem->0<=left->Kept mem left (f s mem left))->MemOk mem->0<=left->Kept mem left (J_ f l mem left)
 |[],mem,left,_,hm,hl=>Kept.refl hm hl
 |s::r,mem,left,hf,hm,hl=>by have h1:=hf s List.mem_cons_self mem left hm hl;unfold J_;split;rename_i h0;exact h1.then h0 (I_ r _ _ (λt ht=>hf t (List.mem_cons_of_mem _ ht)) h1.1 (h1.2.2.1 h0).1);exact h1
theorem wI_ {body:List FV->Int->RSt} {c:List FV->Except Int FV} (hb:∀mem left,MemOk mem->0<=left->Kept mem left (body mem left)) (hc:∀mem e,c mem=.error e->e=5\/e=6\/e=7):
  ∀(n:Nat) (mem:List FV) (left:Int),MemOk mem->0<=left->Kept mem left (v9_ body c n mem left)
 |0,mem,left,hm,hl=>Kept.err hm (by omega)
 |n+1,mem,left,hm,hl=>by unfold v9_;split;exact Kept.err hm (by omega);rename_i h1;split;rename_i e he;have:=hc _ _ he;exact Kept.err hm (by omega);split;exact ⟨hm,.inl rfl,λ_=>⟨by show 0<=left-1;omega,by show left-1<=left;omega⟩,rfl,rfl⟩;have hb1:=hb mem (left-1) hm (by omega);have hb1:Kept mem left (body mem (left-1)):=⟨hb1.1,hb1.2.1,λh=>⟨(hb1.2.2.1 h).1,by have:=(hb1.2.2.1 h).2;omega⟩,hb1.2.2.2⟩;split;rename_i h0;exact hb1.then h0 (wI_ hb hc n _ _ hb1.1 (hb1.2.2.1 h0).1);exact hb1
theorem uP_ {mem:List FV} (hm:MemOk mem) {args:List GX} (ha:∀a∈args,TX 5 a) {l:List FV} (h:i_ mem args=.ok l):(l.tail.headD FV.z).i<=9223372036854775807/\ -9223372036854775808<=(l.tail.headD FV.z).i:=by
 have hV:=tt_ (R_ hm 5) args ha l h
 match l,hV with
 |[],_=>exact ⟨by show (0:Int)<=_;omega,by show _<=(0:Int);omega⟩
 |[a],_=>exact ⟨by show (0:Int)<=_;omega,by show _<=(0:Int);omega⟩
 |a::b::r,hV=>have:=(hV.2 b (List.mem_cons_of_mem _ List.mem_cons_self)).1.i64;exact ⟨this.2,this.1⟩
theorem G_ {now:Int} (hn: -9223372036854775808<=now/\now<=9223372036854775807):∀(d:Nat) (s:GS),TS d s->∀(mem:List FV) (left:Int),MemOk mem->0<=left->Kept mem left (j_ now d s mem left)
 |0,_,h,_,_,_,_=>h.elim
 |d+1,.mk op to e thn els nm kd ad args,h,mem,left,hm,hl=>by have ih:=G_ hn d;rcases h with ⟨h1,h2,h3,h4,h5,_⟩|⟨h1,h2,h3,h4,h5,h6,h7⟩|⟨h1,h2,h3,_⟩;unfold j_;rw [if_pos h1];exact wK_ hm hl h2 h3 h4 h5;unfold j_;rw [if_neg (by omega)];split;split;rename_i er her;have:=h_ _ _ her;exact Kept.err hm (by omega);rename_i v hv;refine I_ _ mem left (λs hs=>?_) hm hl;split at hs;exact ih s (h6 s hs);exact ih s (h7 s hs);rw [if_pos (by omega)];exact wI_ (λm l hm hl=>I_ thn m l (λs hs=>ih s (h6 s hs)) hm hl) (λm e' he=>h_ _ _ he) _ _ _ hm hl;unfold j_;rw [if_neg (by omega),if_neg (by omega),if_neg (by omega)];unfold K_;split;rename_i er her;have:=o0_ _ _ her;exact Kept.err hm (by omega);rename_i l hl';have hv:=uP_ hm h3 hl';obtain ⟨b1,b2,b3⟩:=wD_ (now:=now) h2 hm (decide ((l.headD FV.z).i≠0)) hv.1 hn;exact ⟨b1,.inl rfl,λ_=>⟨hl,Int.le_refl _⟩,b2,b3⟩
def Cj_:VC:=⟨⟨[],[]⟩,[],[],0,true,[]⟩
def Bq_:VT:=.ite 64 (.done (.agg [J 1,J 1,.flt .f64 0]))<|.done (.agg [J 1,J 0,.flt .f64 0])
def Ck_:VC:=⟨⟨[],[]⟩,[],[],0,true,[]⟩
def Br_:VT:=.ite 64 (.done (.agg [J 1,J 1,.flt .f64 0]))<|.done (.agg [J 1,J 0,.flt .f64 0])
def Ap_:VC:=⟨⟨[],[]⟩,[(174,[(some 3)])],[],1,true,[]⟩
def zF_:VT:=Li Qk [100,J 1] 130<|It Q3 [130] 131 (Dn [100,101,102,103,104,105,106,107,108,109,110,111])<|Li Qk [103,J 4] 132<|It Q3 [132] 133 (Dn [100,101,102,103,104,105,106,107,108,109,110,111])<|Li Qk [106,J 1] 134<|It Q3 [134] 135 (Dn [100,101,102,103,104,105,106,107,108,109,110,111])<|Li Qk [109,J 4] 136<|It Q3 [136] 137 (Dn [100,101,102,103,104,105,106,107,108,109,110,111])<|Li Q8 [101,J 0] 138<|Li Q8 [107,J 0] 139<|Li (.mm true) [128,J 0] 140<|It Q3 [127] 141 (Dn [J 1,J 0,.flt .f64 0,J 4,J 0,.flt .f64 0,J 1,J 0,.flt .f64 0,J 4,J 0,.flt .f64 0])<|It Q3 [139] 142 (It Uh [129,129] 143 (Li Qy [129] 144<|Li Qy [129] 145<|Li Zu [144,145] 146<|Li Qy [140] 147<|Li Zv [146,147] 148<|Li Zw [148] 149<|Li Qq [149,140] 150<|.call 174 [150] 151 [(some 3)]<|.call 174 [.bool true] 154 [(some 3)]<|Dn [151,152,153,J 4,149,.flt .f64 0,154,155,156,J 4,129,.flt .f64 0])<|Li Qq [J 0,140] 144<|.call 174 [144] 145 [(some 3)]<|.call 174 [.bool true] 148 [(some 3)]<|Dn [145,146,147,J 4,J 0,.flt .f64 0,148,149,150,J 4,129,.flt .f64 0])<|It Uh [129,110] 143 (Li Qy [129] 144<|Li Qy [110] 145<|Li Zu [144,145] 146<|Li Qy [140] 147<|Li Zv [146,147] 148<|Li Zw [148] 149<|Li Qq [149,140] 150<|.call 174 [150] 151 [(some 3)]<|.call 174 [139] 154 [(some 3)]<|Dn [151,152,153,J 4,149,.flt .f64 0,154,155,156,J 4,110,.flt .f64 0])<|Li Qq [J 0,140] 144<|.call 174 [144] 145 [(some 3)]<|.call 174 [139] 148 [(some 3)]<|Dn [145,146,147,J 4,J 0,.flt .f64 0,148,149,150,J 4,110,.flt .f64 0]
def Aq_:VC:=⟨⟨[],[]⟩,[(176,[(some 3)])],[],1,true,[]⟩
def zG_:VT:=Li Qk [112,J 1] 129<|It Q3 [129] 130 (Dn [112,113,114,115,116,117,118,119,120])<|Li Qk [115,J 2] 131<|It Q3 [131] 132 (Dn [112,113,114,115,116,117,118,119,120])<|Li Qk [118,J 1] 133<|It Q3 [133] 134 (Dn [112,113,114,115,116,117,118,119,120])<|.ite 127 (It Qt [119,J 0] 135 (Li Ui [116,J 1] 136<|Li Zv [136,J 32767] 137<|Li Qo [137,128] 138<|.call 176 [138] 139 [(some 3)]<|.call 176 [.bool true] 142 [(some 3)]<|Dn [139,140,141,J 2,137,.flt .f64 0,142,143,144])<|Li Qo [116,128] 136<|.call 176 [136] 137 [(some 3)]<|.call 176 [.bool true] 140 [(some 3)]<|Dn [137,138,139,J 2,116,.flt .f64 0,140,141,142])<|Li Qo [116,128] 135<|.call 176 [135] 136 [(some 3)]<|.call 176 [.bool false] 139 [(some 3)]<|Dn [136,137,138,J 2,116,.flt .f64 0,139,140,141]
def Ar_:VC:=⟨⟨[],[]⟩,[(176,[(some 3)])],[],1,true,[]⟩
def zH_:VT:=Li Qk [121,J 1] 129<|It Q3 [129] 130 (Dn [121,122,123,124,125,126])<|Li Qk [124,J 1] 131<|It Q3 [131] 132 (Dn [121,122,123,124,125,126])<|Li Q8 [125,J 0] 133<|It (.bin .neq 4 false false) [127,133] 134 (Li Uj [127,.bool true] 135<|.call 176 [135] 136 [(some 3)]<|.call 176 [127] 139 [(some 3)]<|Dn [136,137,138,139,140,141])<|.call 176 [.bool false] 135 [(some 3)]<|.call 176 [127] 138 [(some 3)]<|Dn [135,136,137,138,139,140]
theorem yc_ (b:Bool):jz_ Tryz.prog 174 [.bool b] (.agg (d_ (bv b))):=by refine t7_ (sh:=[none]) (ls:=[.bool b]) (c:=Cj_) (n:=300) (t:=Bq_) mo ov rfl rfl rfl (λY _=>vD_ _) rfl (by kernel_rfl) λY hf hg=>?_;unfold Bq_;cases b;exact vd_ (t:=false) rfl (λh=>by cases h) (λh=>uI_ rfl);exact vd_ (t:=true) rfl (λh=>uI_ rfl) (λh=>by cases h)
theorem vF_ (b:Bool):jz_ Tryz.prog 176 [.bool b] (.agg (d_ (bv b))):=by refine t7_ (sh:=[none]) (ls:=[.bool b]) (c:=Ck_) (n:=300) (t:=Br_) mo ov rfl rfl rfl (λY _=>vD_ _) rfl (by kernel_rfl) λY hf hg=>?_;unfold Br_;cases b;exact vd_ (t:=false) rfl (λh=>by cases h) (λh=>uI_ rfl);exact vd_ (t:=true) rfl (λh=>uI_ rfl) (λh=>by cases h)
def RBk (cs:List FV):Nat->List AV->Prop:=λ_ ws=>ws=cf_ d_ cs
theorem mW_ {cs:List FV} {hv:List AV} {Y:Sy} {L:List (Nat->List AV->Prop)} (h:ab_ Y.v hv=cf_ d_ cs):VOK Tryz.prog (QF (RBk cs)) L Y (.done (.tup (.int .i64 0::hv))):=
 VOK_fin (j:=0) (by rw [h];exact oL_ okV cs) h
theorem n_ {m:FV} {k:Int} (ht:TV m) (hk:m.k=k) (h5:k≠5):∃i,m=⟨k,i,some 0⟩/\InK k i:=by obtain ⟨k',i,f⟩:=m;have hk:k'=k:=hk;subst hk;have hf:f=some 0:=ht.2 h5;subst hf;exact ⟨i,rfl,ht.1⟩
theorem cvU (x:Int):(XOp.conv 2 101).run Tryz.prog [.int .i64 x]=some (.int .u64 (IntKind.u64.wrap x)):=tG_ Tryz.underlying2 Tryz.underlying101 x
theorem AB_ (x:Int) (h1:0<=x) (h2:x<=9223372036854775807):(XOp.conv 101 2).run Tryz.prog [.int .u64 x]=some (.int .i64 x):=by rw [tG_ Tryz.underlying101 Tryz.underlying2,vL_ (by omega) (by omega)]
theorem zO_ {x:Int} (h1:0<=x) (h2:x<=9223372036854775807):IntKind.u64.wrap x=x:=by simp [IntKind.wrap,IntKind.bits,IntKind.signed];omega
theorem A6_ {a b:Int} (h1:0<=a-b) (h2:a-b<=18446744073709551615):IntKind.u64.wrap (IntKind.u64.wrap a-IntKind.u64.wrap b)=a-b:=by simp [IntKind.wrap,IntKind.bits,IntKind.signed];omega
theorem AU_ {mem:List FV} (hm:MemOk mem) (inn:Bool) {v now:Int} (hv: -9223372036854775808<=v/\v<=9223372036854775807) (hn: -9223372036854775808<=now/\now<=9223372036854775807):
  CF Tryz.prog 115 wX_ (cf_ d_ mem++[.bool inn,.int .i64 v,.int .i64 now]) (RBk (q0_ (ci_ mem 14) (ci_ mem 15) inn v now)):=by
 obtain ⟨m0,m1,m2,m3,m4,m5,m6,m7,m8,m9,m10,m11,m12,m13,m14,m15,m16,m17,m18,m19,m20,rfl⟩:=O_ hm.len;have hm':=MemOk.of.1 hm;obtain ⟨⟨k0,k1,k2,k3,k4,k5,k6,k7,k8,k9,k10,k11,k12,k13,k14,k15,k16,k17,k18,k19,k20⟩,t0,t1,t2,t3,t4,t5,t6,t7,t8,t9,t10,t11,t12,t13,t14,t15,t16,t17,t18,t19,t20⟩:=hm';obtain ⟨i12,rfl,h12⟩:=n_ t12 k12 (by decide);obtain ⟨i13,rfl,h13⟩:=n_ t13 k13 (by decide);obtain ⟨i14,rfl,h14⟩:=n_ t14 k14 (by decide);obtain ⟨i15,rfl,h15⟩:=n_ t15 k15 (by decide);show CF Tryz.prog 115 wX_ _ (RBk (q0_ i14 i15 inn v now));have ha:=h15.i64;refine vg_ (c:=Ap_) (n:=300) (t:=zF_) mo ov rfl (λY _=>vD_ _) (by kernel_rfl) λY hf hg=>?_;unfold zF_;refine vw_ (r:=.bool true) rfl rfl (vw_ (r:=.bool false) rfl rfl (vd_ (t:=false) rfl (λh=>by cases h) (λ_=>?_)));refine vw_ (r:=.bool true) rfl rfl (vw_ (r:=.bool false) rfl rfl (vd_ (t:=false) rfl (λh=>by cases h) (λ_=>?_)));refine vw_ (r:=.bool true) rfl rfl (vw_ (r:=.bool false) rfl rfl (vd_ (t:=false) rfl (λh=>by cases h) (λ_=>?_)));refine vw_ (r:=.bool true) rfl rfl (vw_ (r:=.bool false) rfl rfl (vd_ (t:=false) rfl (λh=>by cases h) (λ_=>?_)));refine vw_ (run_neq ..) rfl (vw_ (run_neq ..) rfl (vw_ (r:=.int .i64 (max v 0)) rfl rfl (vw_ (vr_ ..) rfl ?_)));cases inn with
 |false=>exact vd_ (t:=true) rfl (λ_=>mW_ rfl) (λh=>by cases h)
 |true=>
  refine vd_ (t:=false) rfl (λh=>by cases h) (λ_=>vw_ (vr_ ..) rfl (vd_ rfl (λh=>?_) (λh=>?_)))
  .have h0:i14=0:=(by simpa using h);have e:q0_ i14 i15 true v now=[bv (decide (0=max v 0)),tv 0,bv true,tv now]:=(by unfold q0_;rw [if_neg (by decide),if_pos h0]);rw [e]
   (refine a_ rfl rfl ?_ ?_<;>intro h<;>simp only [nc]at h<;>try omega)
   exact vw_ (run_eql ..) rfl (uH_ (yc_ _) rfl rfl (uH_ (yc_ true) rfl rfl (mW_ rfl)))
  .have h0:i14≠0:=(by simpa using h);have e139:(!decide (i14=0))=true:=(by simpa using h0);have e:q0_ i14 i15 true v now=[bv (decide (U_ now i15 (max v 0)=max v 0)),tv (U_ now i15 (max v 0)),bv (!decide (i14=0)),tv i15]:=(by unfold q0_;rw [if_neg (by decide),if_neg h0,e139]);rw [e]
   (refine a_ rfl rfl ?_ ?_<;>intro h<;>simp only [nc]at h<;>try omega)
   have hp:U_ now i15 (max v 0)=min (now-i15) (max v 0):=(by unfold U_;rw [if_neg (by omega)]);rw [hp];refine vw_ (cvU now) rfl (vw_ (cvU i15) rfl (vw_ (run_sub ..) rfl ?_));rw [A6_ (by omega) (by omega)];refine vw_ (cvU _) rfl ?_;rw [zO_ (x:=max v 0) (by omega) (by omega)];refine vw_ (r:=.int .u64 (min (now-i15) (max v 0))) rfl rfl (vw_ (AB_ _ (by omega) (by omega)) rfl (vw_ (run_eql ..) rfl (uH_ (yc_ _) rfl rfl (uH_ (yc_ (!decide (i14=0))) rfl rfl (mW_ rfl)))));have hp:U_ now i15 (max v 0)=0:=(by unfold U_;rw [if_pos (by omega)]);rw [hp];exact vw_ (run_eql ..) rfl (uH_ (yc_ _) rfl rfl (uH_ (yc_ (!decide (i14=0))) rfl rfl (mW_ rfl)))
theorem AV_ {mem:List FV} (hm:MemOk mem) (inn:Bool) (v:Int):
  CF Tryz.prog 116 wV_ (cf_ d_ mem++[.bool inn,.int .i64 v]) (RBk (nw_ (ci_ mem 17) (ci_ mem 18) inn v)):=by
 obtain ⟨m0,m1,m2,m3,m4,m5,m6,m7,m8,m9,m10,m11,m12,m13,m14,m15,m16,m17,m18,m19,m20,rfl⟩:=O_ hm.len;have hm':=MemOk.of.1 hm;obtain ⟨⟨k0,k1,k2,k3,k4,k5,k6,k7,k8,k9,k10,k11,k12,k13,k14,k15,k16,k17,k18,k19,k20⟩,t0,t1,t2,t3,t4,t5,t6,t7,t8,t9,t10,t11,t12,t13,t14,t15,t16,t17,t18,t19,t20⟩:=hm';obtain ⟨i16,rfl,h16⟩:=n_ t16 k16 (by decide);obtain ⟨i17,rfl,h17⟩:=n_ t17 k17 (by decide);obtain ⟨i18,rfl,h18⟩:=n_ t18 k18 (by decide);show CF Tryz.prog 116 wV_ _ (RBk (nw_ i17 i18 inn v));have hc: -32768<=i17/\i17<=32767:=by rcases h17 with q|q|q|q|q<;>omega
 refine vg_ (c:=Aq_) (n:=300) (t:=zG_) mo ov rfl (λY _=>vD_ _) (by kernel_rfl) λY hf hg=>?_;unfold zG_;refine vw_ (r:=.bool true) rfl rfl (vw_ (r:=.bool false) rfl rfl (vd_ (t:=false) rfl (λh=>by cases h) (λ_=>?_)));refine vw_ (r:=.bool true) rfl rfl (vw_ (r:=.bool false) rfl rfl (vd_ (t:=false) rfl (λh=>by cases h) (λ_=>?_)));refine vw_ (r:=.bool true) rfl rfl (vw_ (r:=.bool false) rfl rfl (vd_ (t:=false) rfl (λh=>by cases h) (λ_=>?_)));cases inn with
 |false=>have e:nw_ i17 i18 false v=[bv (decide (v<=i17)),nv i17,bv false]:=rfl;rw [e];exact vd_ (t:=false) rfl (λh=>by cases h) (λ_=>vw_ (run_geq ..) rfl (uH_ (vF_ _) rfl rfl (uH_ (vF_ false) rfl rfl (mW_ rfl))))
 |true=>
  refine vd_ (t:=true) rfl (λ_=>?_) (λh=>by cases h)
  (refine a_ rfl rfl ?_ ?_<;>intro h<;>simp only [nc]at h<;>try omega)
  have e:nw_ i17 i18 true v=[bv (decide (v<=min (i17+1) 32767)),nv (min (i17+1) 32767),bv true]:=(by unfold nw_;rw [if_pos ⟨rfl,h⟩]);rw [e];refine vw_ (g_ (x:=i17) (y:=1) (by omega) (by omega)) rfl (vw_ (r:=.int .i64 (min (i17+1) 32767)) rfl rfl (vw_ (run_geq ..) rfl (uH_ (vF_ _) rfl rfl (uH_ (vF_ true) rfl rfl (mW_ rfl)))));have e:nw_ i17 i18 true v=[bv (decide (v<=i17)),nv i17,bv true]:=(by unfold nw_;rw [if_neg (λq=>h q.2)]);rw [e];exact vw_ (run_geq ..) rfl (uH_ (vF_ _) rfl rfl (uH_ (vF_ true) rfl rfl (mW_ rfl)))
theorem AW_ {mem:List FV} (hm:MemOk mem) (inn:Bool) (v:Int):
  CF Tryz.prog 116 wW_ (cf_ d_ mem++[.bool inn,.int .i64 v]) (RBk (V_ (ci_ mem 20) inn)):=by
 obtain ⟨m0,m1,m2,m3,m4,m5,m6,m7,m8,m9,m10,m11,m12,m13,m14,m15,m16,m17,m18,m19,m20,rfl⟩:=O_ hm.len;have hm':=MemOk.of.1 hm;obtain ⟨⟨k0,k1,k2,k3,k4,k5,k6,k7,k8,k9,k10,k11,k12,k13,k14,k15,k16,k17,k18,k19,k20⟩,t0,t1,t2,t3,t4,t5,t6,t7,t8,t9,t10,t11,t12,t13,t14,t15,t16,t17,t18,t19,t20⟩:=hm';obtain ⟨i19,rfl,h19⟩:=n_ t19 k19 (by decide);obtain ⟨i20,rfl,h20⟩:=n_ t20 k20 (by decide);show CF Tryz.prog 116 wW_ _ (RBk (V_ i20 inn));refine vg_ (c:=Ar_) (n:=300) (t:=zH_) mo ov rfl (λY _=>vD_ _) (by kernel_rfl) λY hf hg=>?_;unfold zH_;refine vw_ (r:=.bool true) rfl rfl (vw_ (r:=.bool false) rfl rfl (vd_ (t:=false) rfl (λh=>by cases h) (λ_=>?_)));refine vw_ (r:=.bool true) rfl rfl (vw_ (r:=.bool false) rfl rfl (vd_ (t:=false) rfl (λh=>by cases h) (λ_=>?_)));refine vw_ (run_neq ..) rfl ?_;cases inn with
 |false=>have e:V_ i20 false=[bv false,bv false]:=rfl;rw [e];by_cases h0:i20=0;subst h0;exact vw_ (r:=.bool false) rfl rfl (vd_ (t:=false) rfl (λh=>by cases h) (λ_=>uH_ (vF_ false) rfl rfl (uH_ (vF_ false) rfl rfl (mW_ rfl))));have e1:(!decide (i20=0))=true:=(by simpa using h0);refine vw_ (r:=.bool true) (by show (XOp.bin .neq 4 false false).run Tryz.prog [.bool false,.bool (!decide (i20=0))]=_;rw [e1];rfl) rfl (vd_ (t:=true) rfl (λ_=>?_) (λh=>by cases h));exact vw_ (r:=.bool false) rfl rfl (uH_ (vF_ false) rfl rfl (uH_ (vF_ false) rfl rfl (mW_ rfl)))
 |true=>by_cases h0:i20=0;subst h0;have e:V_ 0 true=[bv true,bv true]:=rfl;rw [e];exact vw_ (r:=.bool true) rfl rfl (vd_ (t:=true) rfl (λ_=>vw_ (r:=.bool true) rfl rfl (uH_ (vF_ true) rfl rfl (uH_ (vF_ true) rfl rfl (mW_ rfl)))) (λh=>by cases h));have e:V_ i20 true=[bv false,bv true]:=(by unfold V_;rw [decide_eq_false h0];rfl);rw [e];have e1:(!decide (i20=0))=true:=(by simpa using h0);refine vw_ (r:=.bool false) (by show (XOp.bin .neq 4 false false).run Tryz.prog [.bool true,.bool (!decide (i20=0))]=_;rw [e1];rfl) rfl (vd_ (t:=false) rfl (λh=>by cases h) (λ_=>?_));exact uH_ (vF_ false) rfl rfl (uH_ (vF_ true) rfl rfl (mW_ rfl))
def c73:VC:=⟨⟨[],[]⟩,[],[],2,true,[(49,s6_),(81,x3_)]⟩
def t73:VT:=.callF 49 s6_ [64,65,66,78,79,80,81,82,83,84,85,86,87] 94 (.cons 3 (Iq 68 3 110 (.callF 81 x3_ [64,65,66,68,69,70,71,72,73,74,75,76,77] 111 (.cons 1 (Li Q1 [64,124] 125<|Li Z3 [64,125,.agg [107,108,109]] 126<|.chk (.same 64 126)<|.chk (.nn 126)<|Dn [126,66]) (.cons 1 (.chk (.nn 64)<|.done (.tup [J 1,64,66,124])) .nil)))<|Li Q1 [64,72] 111<|Li Z3 [64,111,.agg [107,108,109]] 112<|.chk (.same 64 112)<|.chk (.nn 112)<|Dn [112,66]) (.cons 1 (.chk (.nn 64)<|.done (.tup [J 1,64,66,107])) .nil))
def c74:VC:=⟨⟨[],[]⟩,[],[(0,[⟨[(0,.ptr 0 0),(3,.ptr 2 0)],[(0,[.slx 1 3 0,65,.slx 1 0 0]),(2,[67,68,69,70,71,72,73,74,75,76,77,78,79,80,81,82,83,84,85,86,87,88,89,90,91,92,93])],3,2,[⟨1,3,0,0,(some 0)⟩],[],[]⟩])],2,true,[(113,ft113),(49,s6_),(43,wh_)]⟩
def t74:VT:=.chk (.nn 64)<|.loop 94 0 [64,66] (.cons 2 (Li Qh [95,J 1] 96<|It Z6 [96,J 0] 97 (.callF 113 ft113 [J 8] 98 (.cons 0 (.callF 49 s6_ [94,65,96,78,79,80,81,82,83,84,85,86,87] 99 (.cons 3 (It Qt [113,J 0] 115 (.chk (.nn 94)<|Dn [94,96])<|.callF 43 wh_ [94,65,96,88] 116 (.cons 2 (.chk (.nn 120)<|.again 0 0 [120,121]) (.cons 3 (.chk (.nn 120)<|.done (.tup [J 1,120,121,122])) .nil))) (.cons 1 (.chk (.nn 94)<|.done (.tup [J 1,94,96,112])) .nil))) (.cons 1 (.chk (.nn 94)<|.done (.tup [J 1,94,96,99])) .nil)))<|.callF 49 s6_ [94,65,96,78,79,80,81,82,83,84,85,86,87] 98 (.cons 3 (It Qt [112,J 0] 114 (.chk (.nn 94)<|Dn [94,96])<|.callF 43 wh_ [94,65,96,88] 115 (.cons 2 (.chk (.nn 119)<|.again 0 0 [119,120]) (.cons 3 (.chk (.nn 119)<|.done (.tup [J 1,119,120,121])) .nil))) (.cons 1 (.chk (.nn 94)<|.done (.tup [J 1,94,96,111])) .nil))) .nil)
def c43:VC:=⟨⟨[],[]⟩,[],[(0,[⟨[(9,.slx 0 0 0),(0,.ptr 0 0),(7,67),(8,68)],[(0,[.slx 1 3 1,65,.slx 2 0 0])],2,3,[⟨1,3,1,0,(some 0)⟩],[],[]⟩])],2,true,[(73,yu_),(74,zY_),(75,w8_),(49,s6_),(43,wh_)]⟩
def t43:VT:=Li Za [67] 68<|.chk (.nn 64)<|.loop 69 0 [J 0,64,66] (.cons 3 (It Q4 [69,68] 72 (Li Qx [67,69] 73<|.lt Zq [73] 74 (some 27)<|Iq 74 1 101 (.callF 73 yu_ [70,65,71,74,75,76,77,78,79,80,81,82,83,84,85,86,87,88,89,90,91,92,93,94,95,96,97,98,99,100] 102 (.cons 2 (Li Q2 [69,J 1] 134<|.chk (.nn 132)<|.again 0 0 [134,132,133]) (.cons 3 (.chk (.nn 132)<|.done (.tup [J 1,132,133,134])) .nil)))<|Iq 74 2 102 (.callF 49 s6_ [70,65,71,85,86,87,88,89,90,91,92,93,94] 103 (.cons 3 (It Q8 [117,J 0] 119 (.callF 43 wh_ [70,65,71,95] 120 (.cons 2 (Li Q2 [69,J 1] 126<|.chk (.nn 124)<|.again 0 0 [126,124,125]) (.cons 3 (.chk (.nn 124)<|.done (.tup [J 1,124,125,126])) .nil)))<|.callF 43 wh_ [70,65,71,96] 120 (.cons 2 (Li Q2 [69,J 1] 126<|.chk (.nn 124)<|.again 0 0 [126,124,125]) (.cons 3 (.chk (.nn 124)<|.done (.tup [J 1,124,125,126])) .nil))) (.cons 1 (.chk (.nn 70)<|.done (.tup [J 1,70,71,116])) .nil)))<|Iq 74 3 103 (.callF 74 zY_ [70,65,71,74,75,76,77,78,79,80,81,82,83,84,85,86,87,88,89,90,91,92,93,94,95,96,97,98,99,100] 104 (.cons 2 (Li Q2 [69,J 1] 136<|.chk (.nn 134)<|.again 0 0 [136,134,135]) (.cons 3 (.chk (.nn 134)<|.done (.tup [J 1,134,135,136])) .nil)))<|Iq 74 4 104 (.callF 75 w8_ [70,65,71,74,75,76,77,78,79,80,81,82,83,84,85,86,87,88,89,90,91,92,93,94,95,96,97,98,99,100] 105 (.cons 2 (Li Q2 [69,J 1] 137<|.chk (.nn 135)<|.again 0 0 [137,135,136]) (.cons 3 (.chk (.nn 135)<|.done (.tup [J 1,135,136,137])) .nil)))<|Li Q2 [69,J 1] 105<|.chk (.nn 70)<|.again 0 0 [105,70,71])<|.chk (.nn 70)<|Dn [70,71]) .nil)
def RR (r:RSt):Nat->List AV->Prop:=λj ws=>(r.e=0/\j=0/\ws=[c_ r.mem,.int .i64 r.left])\/(r.e≠0/\j=1/\ws=[c_ r.mem,.int .i64 r.left,.int .i64 r.e])
theorem ok2 (m:List FV) (l:Int):okL [c_ m,.int .i64 l]=true:=by simp only [okL,okC,C_]
theorem ok3 (m:List FV) (l e:Int):okL [c_ m,.int .i64 l,.int .i64 e]=true:=by simp only [okL,okC,C_]
theorem w7_ {r:RSt} {m:List FV} {l:Int} {hv:List AV} {Y:Sy} {L:List (Nat->List AV->Prop)} (h:ab_ Y.v hv=[c_ m,.int .i64 l]) (hr:r=⟨m,l,0⟩):VOK Tryz.prog (QF (RR r)) L Y (.done (.tup (.int .i64 0::hv))):=
 VOK_fin (j:=0) (by rw [h];exact ok2 m l) (.inl (by subst hr;exact ⟨rfl,rfl,h⟩))
theorem vZ_ {r:RSt} {m:List FV} {l e:Int} {hv:List AV} {Y:Sy} {L:List (Nat->List AV->Prop)} (h:ab_ Y.v hv=[c_ m,.int .i64 l,.int .i64 e]) (he:e≠0) (hr:r=⟨m,l,e⟩):VOK Tryz.prog (QF (RR r)) L Y (.done (.tup (.int .i64 1::hv))):=
 VOK_fin (j:=1) (by rw [h];exact ok3 m l e) (.inr (by subst hr;exact ⟨he,rfl,h⟩))
theorem nnV {m:List FV} (hm:MemOk m):∃n z cs,some (c_ m)=some (AV.vsl n z cs):=by
 have:=hm.len;cases m with
 |nil=>simp at this
 |cons x r=>exact ⟨_,_,_,rfl⟩
theorem xw_ {mem:List FV} {to:GX} (ho:to.op=3) {e:Int} (h:f_ mem to=.error e):N_ mem to=.error e:=by
 obtain ⟨op,kd,nm,fd,ad,n,vk,vi,vf,args⟩:=to;have ho:op=3:=ho;simp only [f_,N_]at h⊢;rw [if_neg (by omega),if_neg (by omega)]at h;cases hl:i_ mem args with
 |error e'=>rw [hl]at h;cases h;rfl
 |ok l=>rw [hl]at h;simp only [T_]at h⊢;rw [if_pos ho]at h;split at h;rename_i hc;cases h;rw [if_pos hc];cases h
theorem yS_ {mem:List FV} {left er:Int} {to e:GX} (h:f_ mem e=.error er):vu_ to e mem left=⟨mem,left,er⟩:=by unfold vu_;rw [h]
theorem yR_ {mem:List FV} {left a:Int} {to e:GX} {v:FV} (h3:to.op=3) (h:f_ mem e=.ok v) (hp:N_ mem to=.ok a):vu_ to e mem left=⟨mem.set a.toNat v,left,0⟩:=by unfold vu_;rw [h];simp only;rw [if_pos h3,hp]
theorem xR_ {mem:List FV} {left er:Int} {to e:GX} {v:FV} (h3:to.op=3) (h:f_ mem e=.ok v) (hp:N_ mem to=.error er):vu_ to e mem left=⟨mem,left,er⟩:=by unfold vu_;rw [h];simp only;rw [if_pos h3,hp]
theorem yQ_ {mem:List FV} {left:Int} {to e:GX} {v:FV} (h3:to.op≠3) (h:f_ mem e=.ok v):vu_ to e mem left=⟨mem.set to.ad.toNat v,left,0⟩:=by unfold vu_;rw [h];simp only;rw [if_neg h3]
theorem p73 {mem:List FV} (hm:MemOk mem) (now left:Int) {to e:GX} {thn els:List GS} {nm:List UInt8} {kd ad:Int} {args:List GX} (ht:TX 5 to) (hw:to.op=2/\(to.ad,to.kd)∈wrL\/to.op=3) (he:TX 6 e) (hk:e.kd=to.kd):
  CF Tryz.prog 73 yu_ (MR mem now left++v_ (.mk 1 to e thn els nm kd ad args)) (RR (vu_ to e mem left)):=by
 have hlen:=hm.len;have h49:=p49 hm now left 6 e he;have hkept:=λv hv=>R_ hm 6 e he v hv;have hA:=λv a=>yR_ (mem:=mem) (left:=left) (to:=to) (e:=e) (v:=v) (a:=a);have hB:=λv er=>xR_ (mem:=mem) (left:=left) (to:=to) (e:=e) (v:=v) (er:=er);have hC:=λv=>yQ_ (mem:=mem) (left:=left) (to:=to) (e:=e) (v:=v);have hSe:=λer=>yS_ (mem:=mem) (left:=left) (to:=to) (e:=e) (er:=er);have hEe:=λer=>h_ (mem:=mem) e er;have hpe:=λer=>xw_ (mem:=mem) (to:=to) (e:=er);have hTe:=λer=>h_ (mem:=mem) to er;have hpo:=λa=>vI_ (mem:=mem) ht (a:=a);have h81:to.op=3->CF Tryz.prog 81 x3_ (MR mem now left++k_ to) (RP mem to):=λh3=>by obtain ⟨z1,z2,z3,z4,z5,z6,z7,z8,z9,z10⟩:=to;exact p81 hm (p49 hm now left 4) ht h3
 obtain ⟨z1,z2,z3,z4,z5,z6,z7,z8,z9,z10⟩:=to;obtain ⟨e1,e2,e3,e4,e5,e6,e7,e8,e9,e10⟩:=e;refine vg_ (c:=c73) (n:=300) (t:=t73) mo ov rfl (λY _=>vD_ _) (by kernel_rfl) λY hf hg=>?_;unfold t73;refine uv_ h49 (wB_ mem now left (.mk e1 e2 e3 e4 e5 e6 e7 e8 e9 e10)) ⟨?_,?_,trivial⟩
 .rintro ws (⟨v,hv,_,rfl⟩|⟨_,_,h0,_⟩)
  .obtain ⟨tv,vk⟩:=hkept v hv
   (refine a_ rfl rfl ?_ ?_<;>intro h<;>simp only [nc]at h<;>try omega)
   have h3:=h;refine uv_ (h81 h3) (wB_ mem now left (.mk z1 z2 z3 z4 z5 z6 z7 z8 z9 z10)) ⟨?_,?_,trivial⟩;rintro ws (⟨a,ha,a0,a1,_,rfl⟩|⟨_,_,h0,_⟩);have hp:N_ mem (.mk z1 z2 z3 z4 z5 z6 z7 z8 z9 z10)=.ok (z5+a.i):=(by simp only [N_,ha,List.headD_cons];exact if_neg (λhh=>by rcases hh with hh|hh<;>omega));obtain ⟨b1,b2,_⟩:=hpo _ h3 hp;have hS:=hA v _ h3 hv hp;obtain ⟨m,em⟩:∃m:Nat,z5+a.i=(m:Int):=⟨(z5+a.i).toNat,by omega⟩;have hml:m<mem.length:=(by omega);rw [em,Int.toNat_natCast]at hS;have hkt:=wK_ hm (left:=0) (Int.le_refl _) ht hw he hk;rw [em];refine vw_ (D_ mem hml) rfl (vw_ (ux_ mem hml v) (C_ _) (vc_ (uy_ mem m v) ?_));have hm2:MemOk (mem.set m v):=hm.set hml tv (by rw [hm.kd hml,vk,hk];have:=vI_ ht h3 hp;rw [this.2.2];rcases (by omega:m=8\/m=9\/m=10\/m=11)with rfl|rfl|rfl|rfl<;>rfl);exact vc_ (nnV hm2) (w7_ rfl hS);cases h0;rintro ws (⟨_,_,_,_,h0,_⟩|⟨er,her,_,rfl⟩);cases h0;have hS:=hB v er h3 hv (hpe er h3 her);have:=hTe er her;exact vc_ (nnV hm) (vZ_ rfl (by omega) hS);have h3:=h;have hw':z1=2/\(z5,z2)∈wrL:=(by rcases hw with hw|hw;exact hw;exact absurd hw h3);obtain ⟨q1,q2,q3⟩:=wr_k _ hw'.2;simp only at q1 q2 q3;obtain ⟨m,rfl⟩:∃m:Nat,z5=(m:Int):=⟨z5.toNat,by omega⟩;have hml:m<mem.length:=(by omega);have hS:vu_ _ _ mem left=⟨mem.set m v,left,0⟩:=hC v h3 hv;have hm2:MemOk (mem.set m v):=hm.set hml tv (by rw [hm.kd hml,vk,hk];exact q3.symm);refine vw_ (D_ mem hml) rfl (vw_ (ux_ mem hml v) (C_ _) (vc_ (uy_ mem m v) (vc_ (nnV hm2) (w7_ rfl hS))))
  cases h0
 rintro ws (⟨_,_,h0,_⟩|⟨er,her,_,rfl⟩);cases h0;have:=hEe er her;exact vc_ (nnV hm) (vZ_ rfl (by omega) (hSe er her))
def T75 (tail:VT):VT:=
 (.lt Qa [.sym 93,.int .i64 0] 94 none
 (.lt Qd [.sym 94] 95 (some 10)
 (.callF 49 s6_ [.sym 64,.sym 65,.sym 66,.sym 95,.sym 96,.sym 97,.sym 98,.sym 99,.sym 100,.sym 101,.sym 102,.sym 103,.sym 104] 105
  (.cons 3
  (.lt (.bin .neq 2 false true) [.sym 119,.int .i64 0] 121 none
  (.lt (.slc 47 true false) [.sym 93,.int .i64 1] 122 none
  (.lt (.len 47) [.sym 122] 123 none
  (.loop 124 0 [.int .i64 0,.int .i64 0]
   (.cons 2
   (.lt (.bin .lss 3 false false) [.sym 124,.sym 123] 126 none
   (.ite 126
    (.lt (.iaddr 47) [.sym 122,.sym 124] 127 none
    (.lt (.load 49) [.sym 127] 128 (some 10)
    (.callF 49 s6_ [.sym 64,.sym 65,.sym 66,.sym 128,.sym 129,.sym 130,.sym 131,.sym 132,.sym 133,.sym 134,.sym 135,.sym 136,.sym 137] 138
     (.cons 3
     (.lt (.bin .add 3 false true) [.sym 124,.int .i64 1] 154 none
     (.again 0 0 [.sym 154,.sym 152]))
     (.cons 1
     (.chk (.nn 64)
     (.done (.tup [.int .i64 1,.sym 64,.sym 66,.sym 151])))
     .nil)))))
    tail))
   .nil)))))
  (.cons 1
  (.chk (.nn 64)
  (.done (.tup [.int .i64 1,.sym 64,.sym 66,.sym 118])))
  .nil)))))
def c75a:VC:=⟨⟨[],[]⟩,[],[(10007,[⟨[],[],0,0,[⟨1,3,21,0,none⟩],[],[]⟩]),(0,[⟨[(21,.slx 0 0 0),(0,.ptr 0 0),(19,122),(3,.ptr 2 0),(4,121),(5,.slx 1 0 0),(20,123)],[(0,[.ptx 1 64 3 0,65,66]),(2,[67,68,69,70,71,72,73,74,75,76,77,78,79,80,81,82,83,84,85,86,87,88,89,90,J 6,J 12,93])],3,2,[],[],[(1,64)]⟩])],2,true,[(49,s6_),(115,wX_)]⟩
def yY_:VT:=.lt Z4 [64] 127 (some 63)<|Cf 115 wX_ [127,128,129,130,131,132,133,134,135,136,137,138,139,140,141,142,143,144,145,146,147,148,149,150,151,152,153,154,155,156,157,158,159,160,161,162,163,164,165,166,167,168,169,170,171,172,173,174,175,176,177,178,179,180,181,182,183,184,185,186,187,188,189,121,125,65] 190 12<|Dn [.vsl 21 3 [127,128,129,130,131,132,133,134,135,136,137,138,139,140,141,142,143,144,145,146,147,148,149,150,151,152,153,154,155,156,157,158,159,160,161,162,256,257,258,259,260,261,262,263,264,265,266,267,175,176,177,178,179,180,181,182,183,184,185,186,187,188,189],66]
def c75b:VC:=⟨⟨[],[]⟩,[],[(10007,[⟨[],[],0,0,[⟨1,3,21,0,none⟩],[],[]⟩]),(0,[⟨[(21,.slx 0 0 0),(0,.ptr 0 0),(19,122),(3,.ptr 2 0),(4,121),(5,.slx 1 0 0),(20,123)],[(0,[.ptx 1 64 3 0,65,66]),(2,[67,68,69,70,71,72,73,74,75,76,77,78,79,80,81,82,83,84,85,86,87,88,89,90,J 9,J 16,93])],3,2,[],[],[(1,64)]⟩])],2,true,[(49,s6_),(116,wV_)]⟩
def yZ_:VT:=.lt Z4 [64] 127 (some 63)<|Cf 116 wV_ [127,128,129,130,131,132,133,134,135,136,137,138,139,140,141,142,143,144,145,146,147,148,149,150,151,152,153,154,155,156,157,158,159,160,161,162,163,164,165,166,167,168,169,170,171,172,173,174,175,176,177,178,179,180,181,182,183,184,185,186,187,188,189,121,125] 190 9<|Dn [.vsl 21 3 [127,128,129,130,131,132,133,134,135,136,137,138,139,140,141,142,143,144,145,146,147,148,149,150,151,152,153,154,155,156,157,158,159,160,161,162,163,164,165,166,167,168,169,170,171,172,173,174,255,256,257,258,259,260,261,262,263,184,185,186,187,188,189],66]
def c75c:VC:=⟨⟨[],[]⟩,[],[(10007,[⟨[],[],0,0,[⟨1,3,21,0,none⟩],[],[]⟩]),(0,[⟨[(21,.slx 0 0 0),(0,.ptr 0 0),(19,122),(3,.ptr 2 0),(4,121),(5,.slx 1 0 0),(20,123)],[(0,[.ptx 1 64 3 0,65,66]),(2,[67,68,69,70,71,72,73,74,75,76,77,78,79,80,81,82,83,84,85,86,87,88,89,90,J 11,J 19,93])],3,2,[],[],[(1,64)]⟩])],2,true,[(49,s6_),(116,wW_)]⟩
def y0_:VT:=.lt Z4 [64] 127 (some 63)<|Cf 116 wW_ [127,128,129,130,131,132,133,134,135,136,137,138,139,140,141,142,143,144,145,146,147,148,149,150,151,152,153,154,155,156,157,158,159,160,161,162,163,164,165,166,167,168,169,170,171,172,173,174,175,176,177,178,179,180,181,182,183,184,185,186,187,188,189,121,125] 190 6<|Dn [.vsl 21 3 [127,128,129,130,131,132,133,134,135,136,137,138,139,140,141,142,143,144,145,146,147,148,149,150,151,152,153,154,155,156,157,158,159,160,161,162,163,164,165,166,167,168,169,170,171,172,173,174,175,176,177,178,179,180,181,182,183,255,256,257,258,259,260],66]
theorem es_ {l:List FV} (h:l.length=21):(XOp.opn 21 3).run Tryz.prog [c_ l]=some (.agg (cf_ d_ l)):=by obtain ⟨m0,m1,m2,m3,m4,m5,m6,m7,m8,m9,m10,m11,m12,m13,m14,m15,m16,m17,m18,m19,m20,rfl⟩:=O_ h;rfl
theorem nY_ (l:List FV):(cf_ d_ l).length=l.length*3:=by
 induction l with
 |nil=>rfl
 |cons a r ih=>simp only [cf_,List.length_append,wA_,ih,List.length_cons];omega
theorem xu_ {ls:List AV} {kd ad:Int} (hl:ls.length=30) (h27:ls[27]? =some (.int .i64 kd)) (h28:ls[28]? =some (.int .i64 ad)) {B:World} {pr:Nat->Prop} {E:Env} {w:World} {us:List Value} (h:∀(i:Nat) (a:AV),ls[i]? =some a->E.sy (64+i)=some a)
  (hr:Rel B pr E (w8_.ent.heap 64) w) (hc:ConL E (bs_ 64 (cq_ w8_.ent.slots)) us):Rel B pr E heap75 w/\ConL E (wS_ kd ad) us:=by
 refine ⟨hr,?_⟩;have e:bs_ 64 (cq_ w8_.ent.slots)=[.ptr 0 0,.agg (sy 67 27)]:=by kernel_rfl
 rw [e]at hc;simp only [ConL]at hc;obtain ⟨v,r,h1,h2,v2,r2,h3,h4,h5⟩:=hc;simp only [Con]at h4;obtain ⟨vs,h6,h7⟩:=h4;have e2:sy 67 24++[.int .i64 kd,.int .i64 ad,.sym 93]=fP_ 25 (.int .i64 ad) (fP_ 24 (.int .i64 kd) (sy 67 27)):=rfl;show ConL E [.ptr 0 0,.agg (sy 67 24++[.int .i64 kd,.int .i64 ad,.sym 93])] us;rw [e2];simp only [ConL];refine ⟨v,r,h1,h2,v2,r2,h3,?_,h5⟩;simp only [Con];refine ⟨vs,h6,m8_ (a:=.sym 92) (λv hv=>uA_ (h 28 _ h28) hv) 25 _ _ rfl (m8_ (a:=.sym 91) (λv hv=>uA_ (h 27 _ h27) hv) 24 _ _ rfl h7)⟩
theorem v75 {mem:List FV} (hm:MemOk mem) (now left:Int) {op kd ad:Int} {to e:GX} {thn els:List GS} {nm:List UInt8} {args:List GX} (ha:∀a∈args,TX 5 a) (hl:args.length=1\/args.length=2) {Y:Sy} {tail:VT}
  (ht:∀(l:List FV),i_ mem args=.ok l->∀(Y':Sy) (L:List (Nat->List AV->Prop)),Y'.v 64=some (c_ mem)->Y'.v 65=some (.int .i64 now)->Y'.v 66=some (.int .i64 left)->Y'.v 121=some (.bool (decide ((l.headD FV.z).i≠0)))->Y'.v 125=some (.int .i64 (l.tail.headD FV.z).i)->VOK Tryz.prog (QF (RR (K_ now kd args mem left))) L Y' tail):
  VOK Tryz.prog (QF (RR (K_ now kd args mem left))) [] ((Y.puts 64 (MR mem now left++v_ (.mk op to e thn els nm kd ad args))).puts (64+w8_.ent.nv) []) (T75 tail):=by
 obtain ⟨z1,z2,z3,z4,z5,z6,z7,z8,z9,z10⟩:=to;obtain ⟨e1,e2,e3,e4,e5,e6,e7,e8,e9,e10⟩:=e;obtain ⟨x,rest,rfl⟩:∃x rest,args=x::rest:=by
  cases args with
  |nil=>simp at hl
  |cons x r=>exact ⟨x,r,rfl⟩
 have hrl:rest.length<=1:=by simp only [List.length_cons]at hl;omega
 have hCe:∀er,i_ mem (x::rest)=.error er->K_ now kd (x::rest) mem left=⟨mem,left,er⟩:=λer h=>by unfold K_;rw [h]
 have hEe:=λer=>o0_ (mem:=mem) (x::rest) er;have h0:=w0_ mem (x::rest);have hx:=p49 hm now left 5 x (ha x List.mem_cons_self);have hxo:=λv=>wd_ (v:=v) h0 (by simp);have hxe:=λer=>wc_ (e:=er) h0 (by simp);have hld:=q_ (x::rest) (i:=0) (by simp);obtain ⟨x1,x2,x3,x4,x5,x6,x7,x8,x9,x10⟩:=x;unfold T75;refine vw_ (m_ (.mk x1 x2 x3 x4 x5 x6 x7 x8 x9 x10::rest) (i:=0) (by simp)) (oL_ okX _) (ve_ hld rfl (okX (.mk x1 x2 x3 x4 x5 x6 x7 x8 x9 x10)) ?_);refine uv_ hx (wB_ mem now left (.mk x1 x2 x3 x4 x5 x6 x7 x8 x9 x10)) ⟨?_,?_,trivial⟩
 .rintro ws (⟨a,hav,_,rfl⟩|⟨_,_,h0,_⟩)
  .refine vw_ (run_neq ..) rfl ?_;rcases rest with _|⟨y,rest⟩;have hL:i_ mem [.mk x1 x2 x3 x4 x5 x6 x7 x8 x9 x10]=.ok [a]:=b9_ hav;refine vw_ (r:=.vsl 0 10 []) rfl rfl (vw_ (r:=.int .i64 0) rfl rfl ?_);refine uJ_ (ι:=Unit) (λ_=>[.int .i64 0,.int .i64 0]) (λ_=>True) (λ_=>0) () trivial rfl (λ_ _=>rfl) (λ_ _ _ _ _=>rfl) (λ_ _=>?_);refine vw_ (r:=.bool false) rfl rfl (vd_ (t:=false) rfl (λh=>by cases h) (λ_=>?_));exact ht [a] hL _ _ rfl rfl rfl (by show some (AV.bool (!decide (a.i=0)))=some (AV.bool (decide (a.i≠0)));rw [decide_not]) rfl
   .obtain rfl:rest=[]:=by
      cases rest with
      |nil=>rfl
      |cons _ _=>simp at hrl
    obtain ⟨y1,y2,y3,y4,y5,y6,y7,y8,y9,y10⟩:=y;have hy:=p49 hm now left 5 (.mk y1 y2 y3 y4 y5 y6 y7 y8 y9 y10) (ha _ (List.mem_cons_of_mem _ List.mem_cons_self));have hLy:∀b,f_ mem (.mk y1 y2 y3 y4 y5 y6 y7 y8 y9 y10)=.ok b->i_ mem [.mk x1 x2 x3 x4 x5 x6 x7 x8 x9 x10,.mk y1 y2 y3 y4 y5 y6 y7 y8 y9 y10]=.ok [a,b]:=λb hb=>(by rw [i_,hav];simp only;rw [b9_ hb]);have hLe:∀er,f_ mem (.mk y1 y2 y3 y4 y5 y6 y7 y8 y9 y10)=.error er->i_ mem [.mk x1 x2 x3 x4 x5 x6 x7 x8 x9 x10,.mk y1 y2 y3 y4 y5 y6 y7 y8 y9 y10]=.error er:=λer hb=>(by rw [i_,hav];simp only;rw [rK_ hb]);refine vw_ (r:=L_ [.mk y1 y2 y3 y4 y5 y6 y7 y8 y9 y10]) rfl (okA _) (vw_ (r:=.int .i64 1) rfl rfl ?_);refine uJ_ (ι:=Option FV) (λo=>match o with|none=>[.int .i64 0,.int .i64 0]|some b=>[.int .i64 1,.int .i64 b.i]) (λo=>match o with|none=>True|some b=>f_ mem (.mk y1 y2 y3 y4 y5 y6 y7 y8 y9 y10)=.ok b) (λo=>match o with|none=>1|some _=>0) none trivial rfl (λo _=>by cases o<;>rfl) (λo o' _ _ h=>by cases o<;>cases o'<;>simp at h⊢) (λo ho=>?_);cases o with
    |none=>refine vw_ (r:=.bool true) rfl rfl (vd_ (t:=true) rfl (λ_=>?_) (λh=>by cases h));refine vw_ (m_ [.mk y1 y2 y3 y4 y5 y6 y7 y8 y9 y10] (i:=0) (by simp)) (oL_ okX _) (ve_ (q_ [.mk y1 y2 y3 y4 y5 y6 y7 y8 y9 y10] (i:=0) (by simp)) rfl (okX (.mk y1 y2 y3 y4 y5 y6 y7 y8 y9 y10)) ?_);refine uv_ hy (wB_ mem now left (.mk y1 y2 y3 y4 y5 y6 y7 y8 y9 y10)) ⟨?_,?_,trivial⟩;rintro ws (⟨b,hb,_,rfl⟩|⟨_,_,h0,_⟩);exact vw_ (r:=.int .i64 1) rfl rfl (uu_ rfl ⟨some b,hb,rfl,Nat.zero_lt_one⟩);cases h0;rintro ws (⟨_,_,h0,_⟩|⟨er,her,_,rfl⟩);cases h0;have:=h_ _ _ her;exact vc_ (nnV hm) (vZ_ rfl (by omega) (hCe er (hLe er her)))
    |some b=>refine vw_ (r:=.bool false) rfl rfl (vd_ (t:=false) rfl (λh=>by cases h) (λ_=>?_));exact ht [a,b] (hLy b ho) _ _ rfl rfl rfl (by show some (AV.bool (!decide (a.i=0)))=some (AV.bool (decide (a.i≠0)));rw [decide_not]) rfl
  cases h0
 rintro ws (⟨_,_,h0,_⟩|⟨er,her,_,rfl⟩);cases h0;have:=h_ _ _ her;exact vc_ (nnV hm) (vZ_ rfl (by omega) (hCe er (hxe er her)))
theorem on_ {Y:Sy} {i:Nat} {a:AV} (h:Y.v i=some a):den Y.v (.sym i)=a:=by simp only [den,h]
theorem Az_ {m0 m1 m2 m3 m4 m5 m6 m7 m8 m9 m10 m11 m12 m13 m14 m15 m16 m17 m18 m19 m20:FV} (hm:MemOk [m0,m1,m2,m3,m4,m5,m6,m7,m8,m9,m10,m11,m12,m13,m14,m15,m16,m17,m18,m19,m20]): -32768<=m17.i/\m17.i<=32767:=by have h:=MemOk.of.1 hm;obtain ⟨⟨k0,k1,k2,k3,k4,k5,k6,k7,k8,k9,k10,k11,k12,k13,k14,k15,k16,k17,k18,k19,k20⟩,t0,t1,t2,t3,t4,t5,t6,t7,t8,t9,t10,t11,t12,t13,t14,t15,t16,t17,t18,t19,t20⟩:=h;rcases t17.1 with q|q|q|q|q<;>omega
theorem C9_ {mem:List FV} (hm:MemOk mem) {now left:Int} (hn: -9223372036854775808<=now/\now<=9223372036854775807) {args:List GX} (inn:Bool) {v:Int} (hv: -9223372036854775808<=v/\v<=9223372036854775807) (hr:K_ now 6 args mem left=⟨z_ now 6 mem inn v,left,0⟩) {Y:Sy} {L:List (Nat->List AV->Prop)}
  (h64:Y.v 64=some (c_ mem)) (h65:Y.v 65=some (.int .i64 now)) (h66:Y.v 66=some (.int .i64 left)) (h121:Y.v 121=some (.bool inn)) (h125:Y.v 125=some (.int .i64 v)):VOK Tryz.prog (QF (RR (K_ now 6 args mem left))) L Y yY_:=by
 have hc:=AU_ hm inn hv hn;obtain ⟨m0,m1,m2,m3,m4,m5,m6,m7,m8,m9,m10,m11,m12,m13,m14,m15,m16,m17,m18,m19,m20,rfl⟩:=O_ hm.len;have hop:=es_ (l:=[m0,m1,m2,m3,m4,m5,m6,m7,m8,m9,m10,m11,m12,m13,m14,m15,m16,m17,m18,m19,m20]) rfl;unfold yY_;refine ve_ (cs:=cf_ d_ [m0,m1,m2,m3,m4,m5,m6,m7,m8,m9,m10,m11,m12,m13,m14,m15,m16,m17,m18,m19,m20]) (show (XOp.opn 21 3).run Tryz.prog (ab_ Y.v [.sym 64])=_ from by rw [show ab_ Y.v [.sym 64]=[c_ [m0,m1,m2,m3,m4,m5,m6,m7,m8,m9,m10,m11,m12,m13,m14,m15,m16,m17,m18,m19,m20]] from by simp only [ab_,den,h64]];exact hop) rfl (oL_ okV _) ?_;have hd:ab_ (Y.puts 127 (cf_ d_ [m0,m1,m2,m3,m4,m5,m6,m7,m8,m9,m10,m11,m12,m13,m14,m15,m16,m17,m18,m19,m20])).v (ai_ 127 63++[.sym 121,.sym 125,.sym 65])=cf_ d_ [m0,m1,m2,m3,m4,m5,m6,m7,m8,m9,m10,m11,m12,m13,m14,m15,m16,m17,m18,m19,m20]++[.bool inn,.int .i64 v,.int .i64 now]:=by rw [ds_];refine congr (congrArg _ rfl) ?_;show [den Y.v (.sym 121),den Y.v (.sym 125),den Y.v (.sym 65)]=_;rw [on_ h121,on_ h125,on_ h65]
 refine uv_ (show CF Tryz.prog 115 wX_ (ab_ (Y.puts 127 (cf_ d_ [m0,m1,m2,m3,m4,m5,m6,m7,m8,m9,m10,m11,m12,m13,m14,m15,m16,m17,m18,m19,m20])).v (ai_ 127 63++[.sym 121,.sym 125,.sym 65])) _ from by rw [hd];exact hc) (show okL (ab_ (Y.puts 127 (cf_ d_ [m0,m1,m2,m3,m4,m5,m6,m7,m8,m9,m10,m11,m12,m13,m14,m15,m16,m17,m18,m19,m20])).v (ai_ 127 63++[.sym 121,.sym 125,.sym 65]))=true from by rw [hd];exact oL_.okL_join (oL_ okV _) rfl) ⟨?_,trivial⟩;intro ws hws;obtain ⟨a,b,c,d,e,_⟩:=xz_ m14.i m15.i inn (v:=v) (now:=now) hv.2 hn (((MemOk.of.1 hm).2.2.2.2.2.2.2.2.2.2.2.2.2.2.2.2.1).1.i64);have hws:ws=cf_ d_ (q0_ m14.i m15.i inn v now):=hws;rw [e]at hws;subst hws;refine w7_ (m:=[m0,m1,m2,m3,m4,m5,m6,m7,m8,m9,m10,m11,a,b,c,d,m16,m17,m18,m19,m20]) (l:=left) ?_ (by rw [hr];refine congrArg (λm=>RSt.mk m left 0) ?_;show wm_ _ 12 (q0_ m14.i m15.i inn v now)=_;rw [e];rfl);show [_,den Y.v (.sym 66)]=_;rw [on_ h66];rfl
theorem Da_ {mem:List FV} (hm:MemOk mem) {now left:Int} (hn: -9223372036854775808<=now/\now<=9223372036854775807) {args:List GX} (inn:Bool) {v:Int} (hv: -9223372036854775808<=v/\v<=9223372036854775807) (hr:K_ now 9 args mem left=⟨z_ now 9 mem inn v,left,0⟩) {Y:Sy} {L:List (Nat->List AV->Prop)}
  (h64:Y.v 64=some (c_ mem)) (h65:Y.v 65=some (.int .i64 now)) (h66:Y.v 66=some (.int .i64 left)) (h121:Y.v 121=some (.bool inn)) (h125:Y.v 125=some (.int .i64 v)):VOK Tryz.prog (QF (RR (K_ now 9 args mem left))) L Y yZ_:=by
 have hc:=AV_ hm inn v;obtain ⟨m0,m1,m2,m3,m4,m5,m6,m7,m8,m9,m10,m11,m12,m13,m14,m15,m16,m17,m18,m19,m20,rfl⟩:=O_ hm.len;have hop:=es_ (l:=[m0,m1,m2,m3,m4,m5,m6,m7,m8,m9,m10,m11,m12,m13,m14,m15,m16,m17,m18,m19,m20]) rfl;unfold yZ_;refine ve_ (cs:=cf_ d_ [m0,m1,m2,m3,m4,m5,m6,m7,m8,m9,m10,m11,m12,m13,m14,m15,m16,m17,m18,m19,m20]) (show (XOp.opn 21 3).run Tryz.prog (ab_ Y.v [.sym 64])=_ from by rw [show ab_ Y.v [.sym 64]=[c_ [m0,m1,m2,m3,m4,m5,m6,m7,m8,m9,m10,m11,m12,m13,m14,m15,m16,m17,m18,m19,m20]] from by simp only [ab_,den,h64]];exact hop) rfl (oL_ okV _) ?_;have hd:ab_ (Y.puts 127 (cf_ d_ [m0,m1,m2,m3,m4,m5,m6,m7,m8,m9,m10,m11,m12,m13,m14,m15,m16,m17,m18,m19,m20])).v (ai_ 127 63++[.sym 121,.sym 125])=cf_ d_ [m0,m1,m2,m3,m4,m5,m6,m7,m8,m9,m10,m11,m12,m13,m14,m15,m16,m17,m18,m19,m20]++[.bool inn,.int .i64 v]:=by rw [ds_];refine congr (congrArg _ rfl) ?_;show [den Y.v (.sym 121),den Y.v (.sym 125)]=_;rw [on_ h121,on_ h125]
 refine uv_ (show CF Tryz.prog 116 wV_ (ab_ (Y.puts 127 (cf_ d_ [m0,m1,m2,m3,m4,m5,m6,m7,m8,m9,m10,m11,m12,m13,m14,m15,m16,m17,m18,m19,m20])).v (ai_ 127 63++[.sym 121,.sym 125])) _ from by rw [hd];exact hc) (show okL (ab_ (Y.puts 127 (cf_ d_ [m0,m1,m2,m3,m4,m5,m6,m7,m8,m9,m10,m11,m12,m13,m14,m15,m16,m17,m18,m19,m20])).v (ai_ 127 63++[.sym 121,.sym 125]))=true from by rw [hd];exact oL_.okL_join (oL_ okV _) rfl) ⟨?_,trivial⟩;intro ws hws;obtain ⟨a,b,c,e,_⟩:=xl_ m18.i inn v (Az_ hm);have hws:ws=cf_ d_ (nw_ m17.i m18.i inn v):=hws;rw [e]at hws;subst hws;refine w7_ (m:=[m0,m1,m2,m3,m4,m5,m6,m7,m8,m9,m10,m11,m12,m13,m14,m15,a,b,c,m19,m20]) (l:=left) ?_ (by rw [hr];refine congrArg (λm=>RSt.mk m left 0) ?_;show wm_ _ 16 (nw_ m17.i m18.i inn v)=_;rw [e];rfl);show [_,den Y.v (.sym 66)]=_;rw [on_ h66];rfl
theorem Db_ {mem:List FV} (hm:MemOk mem) {now left:Int} (hn: -9223372036854775808<=now/\now<=9223372036854775807) {args:List GX} (inn:Bool) {v:Int} (hv: -9223372036854775808<=v/\v<=9223372036854775807) (hr:K_ now 11 args mem left=⟨z_ now 11 mem inn v,left,0⟩) {Y:Sy} {L:List (Nat->List AV->Prop)}
  (h64:Y.v 64=some (c_ mem)) (h65:Y.v 65=some (.int .i64 now)) (h66:Y.v 66=some (.int .i64 left)) (h121:Y.v 121=some (.bool inn)) (h125:Y.v 125=some (.int .i64 v)):VOK Tryz.prog (QF (RR (K_ now 11 args mem left))) L Y y0_:=by
 have hc:=AW_ hm inn v;obtain ⟨m0,m1,m2,m3,m4,m5,m6,m7,m8,m9,m10,m11,m12,m13,m14,m15,m16,m17,m18,m19,m20,rfl⟩:=O_ hm.len;have hop:=es_ (l:=[m0,m1,m2,m3,m4,m5,m6,m7,m8,m9,m10,m11,m12,m13,m14,m15,m16,m17,m18,m19,m20]) rfl;unfold y0_;refine ve_ (cs:=cf_ d_ [m0,m1,m2,m3,m4,m5,m6,m7,m8,m9,m10,m11,m12,m13,m14,m15,m16,m17,m18,m19,m20]) (show (XOp.opn 21 3).run Tryz.prog (ab_ Y.v [.sym 64])=_ from by rw [show ab_ Y.v [.sym 64]=[c_ [m0,m1,m2,m3,m4,m5,m6,m7,m8,m9,m10,m11,m12,m13,m14,m15,m16,m17,m18,m19,m20]] from by simp only [ab_,den,h64]];exact hop) rfl (oL_ okV _) ?_;have hd:ab_ (Y.puts 127 (cf_ d_ [m0,m1,m2,m3,m4,m5,m6,m7,m8,m9,m10,m11,m12,m13,m14,m15,m16,m17,m18,m19,m20])).v (ai_ 127 63++[.sym 121,.sym 125])=cf_ d_ [m0,m1,m2,m3,m4,m5,m6,m7,m8,m9,m10,m11,m12,m13,m14,m15,m16,m17,m18,m19,m20]++[.bool inn,.int .i64 v]:=by rw [ds_];refine congr (congrArg _ rfl) ?_;show [den Y.v (.sym 121),den Y.v (.sym 125)]=_;rw [on_ h121,on_ h125]
 refine uv_ (show CF Tryz.prog 116 wW_ (ab_ (Y.puts 127 (cf_ d_ [m0,m1,m2,m3,m4,m5,m6,m7,m8,m9,m10,m11,m12,m13,m14,m15,m16,m17,m18,m19,m20])).v (ai_ 127 63++[.sym 121,.sym 125])) _ from by rw [hd];exact hc) (show okL (ab_ (Y.puts 127 (cf_ d_ [m0,m1,m2,m3,m4,m5,m6,m7,m8,m9,m10,m11,m12,m13,m14,m15,m16,m17,m18,m19,m20])).v (ai_ 127 63++[.sym 121,.sym 125]))=true from by rw [hd];exact oL_.okL_join (oL_ okV _) rfl) ⟨?_,trivial⟩;intro ws hws;obtain ⟨a,b,e,_⟩:=(⟨_,_,rfl,trivial⟩:∃a b,V_ m20.i inn=[a,b]/\True);have hws:ws=cf_ d_ (V_ m20.i inn):=hws;rw [e]at hws;subst hws;refine w7_ (m:=[m0,m1,m2,m3,m4,m5,m6,m7,m8,m9,m10,m11,m12,m13,m14,m15,m16,m17,m18,a,b]) (l:=left) ?_ (by rw [hr];refine congrArg (λm=>RSt.mk m left 0) ?_;show wm_ _ 19 (V_ m20.i inn)=_;rw [e];rfl);show [_,den Y.v (.sym 66)]=_;rw [on_ h66];rfl
theorem p75 {mem:List FV} (hm:MemOk mem) {now:Int} (hn: -9223372036854775808<=now/\now<=9223372036854775807) (left:Int) {op kd ad:Int} {to e:GX} {thn els:List GS} {nm:List UInt8} {args:List GX} (hb:Blk kd ad (args.map GX.kd)) (ha:∀a∈args,TX 5 a):
  CF Tryz.prog 75 w8_ (MR mem now left++v_ (.mk op to e thn els nm kd ad args)) (RR (K_ now kd args mem left)):=by
 have hi:∀l,i_ mem args=.ok l-> -9223372036854775808<=(l.tail.headD FV.z).i/\(l.tail.headD FV.z).i<=9223372036854775807:=λl hl=>⟨(uP_ hm ha hl).2,(uP_ hm ha hl).1⟩;have hR:∀l,i_ mem args=.ok l->K_ now kd args mem left=⟨z_ now kd mem (decide ((l.headD FV.z).i≠0)) (l.tail.headD FV.z).i,left,0⟩:=λl hl=>by unfold K_;rw [hl]
 have hlen:args.length=1\/args.length=2:=by rcases hb with ⟨_,_,h⟩|⟨_,_,h⟩|⟨_,_,h⟩<;>(have:=congrArg List.length h;simp at this;omega)
 have hls:(MR mem now left++v_ (.mk op to e thn els nm kd ad args)).length=30:=by rw [List.length_append,zb_];rfl
 have h27:(MR mem now left++v_ (.mk op to e thn els nm kd ad args))[27]? =some (.int .i64 kd):=by obtain ⟨z1,z2,z3,z4,z5,z6,z7,z8,z9,z10⟩:=to;obtain ⟨e1,e2,e3,e4,e5,e6,e7,e8,e9,e10⟩:=e;rfl
 have h28:(MR mem now left++v_ (.mk op to e thn els nm kd ad args))[28]? =some (.int .i64 ad):=by obtain ⟨z1,z2,z3,z4,z5,z6,z7,z8,z9,z10⟩:=to;obtain ⟨e1,e2,e3,e4,e5,e6,e7,e8,e9,e10⟩:=e;rfl
 rcases hb with ⟨rfl,rfl,_⟩|⟨rfl,rfl,_⟩|⟨rfl,rfl,_⟩;exact vf_ (c:=c75a) (ex:=[]) (args:=wS_ 6 12) (H:=heap75) (n:=300) (t:=T75 yY_) mo ov hls (λY=>vD_ _) rfl (λB pr E w us h _ hr hc=>xu_ hls h27 h28 h hr hc) (by kernel_rfl) λY hf hg=>v75 hm now left ha hlen λl hl Y' L h64 h65 h66 h121 h125=>C9_ hm hn _ (hi l hl) (hR l hl) h64 h65 h66 h121 h125;exact vf_ (c:=c75b) (ex:=[]) (args:=wS_ 9 16) (H:=heap75) (n:=300) (t:=T75 yZ_) mo ov hls (λY=>vD_ _) rfl (λB pr E w us h _ hr hc=>xu_ hls h27 h28 h hr hc) (by kernel_rfl) λY hf hg=>v75 hm now left ha hlen λl hl Y' L h64 h65 h66 h121 h125=>Da_ hm hn _ (hi l hl) (hR l hl) h64 h65 h66 h121 h125;exact vf_ (c:=c75c) (ex:=[]) (args:=wS_ 11 19) (H:=heap75) (n:=300) (t:=T75 y0_) mo ov hls (λY=>vD_ _) rfl (λB pr E w us h _ hr hc=>xu_ hls h27 h28 h hr hc) (by kernel_rfl) λY hf hg=>v75 hm now left ha hlen λl hl Y' L h64 h65 h66 h121 h125=>Db_ hm hn _ (hi l hl) (hR l hl) h64 h65 h66 h121 h125
def c16:VC:=⟨⟨[],[]⟩,[],[],0,true,[(43,wh_)]⟩
def t16:VT:=It Zx [66,.nsl] 69 .bad<|Li Qg [.vsl 0 3 [],66] 70<|.callF 43 wh_ [70,67,68,65] 71 (.cons 2 (.chk (.same 70 75)<|Dn [75,J 0]) (.cons 3 (.chk (.same 70 75)<|Dn [75,77]) .nil))
def P43 (now:Int) (d:Nat):Prop:=∀(l:List GS),l.length<=5->(∀s∈l,TS d s)->∀(mem:List FV) (left:Int),MemOk mem->0<=left->left<=100000->CF Tryz.prog 43 wh_ (MR mem now left++[A_ l]) (RR (J_ (j_ now d) l mem left))
theorem z3_ (mem:List FV) (now left:Int) (l:List GS):okL (MR mem now left++[A_ l])=true:=zf_ _ _ _ (by simp only [okL,okB])
theorem CE_ (mem:List FV) (now left:Int) (s:GS):okL (MR mem now left++v_ s)=true:=zf_ _ _ _ (okS s)
theorem yN_ {body:List FV->Int->RSt} {c:List FV->Except Int FV} {n:Nat} {mem:List FV} {left:Int}:v9_ body c (n+1) mem left=if left-1<0 then ⟨mem,left-1,8⟩else match c mem with
 | .error e=>⟨mem,left-1,e⟩
 | .ok v=>if v.i=0 then ⟨mem,left-1,0⟩else if (body mem (left-1)).e=0 then v9_ body c n (body mem (left-1)).mem (body mem (left-1)).left else body mem (left-1):=rfl
theorem p74 {now:Int} (hn: -9223372036854775808<=now/\now<=9223372036854775807) {d:Nat} (ih:P43 now d) {to e:GX} {thn els:List GS} {nm:List UInt8} {kd ad:Int} {args:List GX} (he:TX 5 e) (hL:thn.length<=5) (ht:∀s∈thn,TS d s) {mem:List FV} {left:Int} (hm:MemOk mem) (hl:0<=left) (hl2:left<=100000):
  CF Tryz.prog 74 zY_ (MR mem now left++v_ (.mk 3 to e thn els nm kd ad args)) (RR (v9_ (J_ (j_ now d) thn) (λm=>f_ m e) (left.toNat+1) mem left)):=by
 have hE:=λm er=>h_ (mem:=m) e er;have h49:=λm (hm:MemOk m) lf=>p49 hm now lf 5 e he;have hk:=λm lf (hm:MemOk m) (h:0<=lf)=>I_ (f:=j_ now d) thn m lf (λs hs m l hm hl=>G_ hn d s (ht s hs) m l hm hl) hm h;obtain ⟨z1,z2,z3,z4,z5,z6,z7,z8,z9,z10⟩:=to;obtain ⟨e1,e2,e3,e4,e5,e6,e7,e8,e9,e10⟩:=e;refine vg_ (c:=c74) (n:=300) (t:=t74) mo ov rfl (λY _=>vD_ _) (by kernel_rfl) λY hf hg=>?_;unfold t74;refine vc_ (nnV hm) ?_;generalize hbody:J_ (j_ now d) thn=body at*;generalize hres:v9_ body (λm=>f_ m (.mk e1 e2 e3 e4 e5 e6 e7 e8 e9 e10)) (left.toNat+1) mem left=res at*;refine uJ_ (ι:=List FV×Int) (λs=>[c_ s.1,.int .i64 s.2]) (λs=>MemOk s.1/\0<=s.2/\s.2<=left/\∃f,s.2.toNat+1<=f/\v9_ body (λm=>f_ m (.mk e1 e2 e3 e4 e5 e6 e7 e8 e9 e10)) f s.1 s.2=res) (λs=>s.2.toNat) (mem,left) ⟨hm,hl,Int.le_refl _,_,Nat.le_refl _,hres⟩ rfl (λs _=>ok2 _ _) (λs s' _ _ h=>by simp at h;rw [h.2]) (λs hs=>?_);obtain ⟨m,lf⟩:=s;obtain ⟨hm1,hl1,hl3,f,hf1,hr⟩:=hs;simp only at hm1 hl1 hl3 hf1 hr⊢;obtain ⟨n,rfl⟩:∃n,f=n+1:=⟨f-1,by omega⟩;rw [yN_]at hr;refine vw_ (y_ (z:=lf-1) rfl (by omega) (by omega)) rfl ?_
 (refine a_ rfl rfl ?_ ?_<;>intro h<;>simp only [nc]at h<;>try omega)
 rw [if_pos h]at hr;refine uv_ (yH_ 8) rfl ⟨?_,?_,trivial⟩;rintro ws (⟨_,h0,_⟩|⟨h0,_⟩);cases h0;cases h0;rintro ws (⟨h0,_⟩|⟨_,_,rfl⟩);cases h0;exact vc_ (nnV hm1) (vZ_ rfl (by decide) hr.symm);rw [if_neg (by omega)]at hr;refine uv_ (h49 m hm1 (lf-1)) (wB_ m now (lf-1) (.mk e1 e2 e3 e4 e5 e6 e7 e8 e9 e10)) ⟨?_,?_,trivial⟩
 .rintro ws (⟨v,hv,_,rfl⟩|⟨_,_,h0,_⟩)
  .rw [hv]at hr;simp only at hr
   (refine a_ rfl rfl ?_ ?_<;>intro h<;>simp only [nc]at h<;>try omega)
   rw [if_pos h]at hr;exact vc_ (nnV hm1) (w7_ rfl hr.symm);rw [if_neg h]at hr;have hkk:=hk m (lf-1) hm1 (by omega);have h43:=ih thn hL ht m (lf-1) hm1 (by omega) (by omega);rw [hbody]at h43;generalize body m (lf-1)=r at*;refine uv_ h43 (z3_ m now (lf-1) thn) ⟨?_,?_,trivial⟩;rintro ws (⟨h0,_,rfl⟩|⟨_,h0,_⟩);rw [if_pos h0]at hr;have:=hkk.2.2.1 h0;exact vc_ (nnV hkk.1) (uu_ rfl ⟨(r.mem,r.left),⟨hkk.1,this.1,by omega,n,by omega,hr⟩,rfl,by simp only;omega⟩);cases h0;rintro ws (⟨_,h0,_⟩|⟨h0,_,rfl⟩);cases h0;rw [if_neg h0]at hr;exact vc_ (nnV hkk.1) (vZ_ rfl h0 hr.symm)
  cases h0
 rintro ws (⟨_,_,h0,_⟩|⟨er,her,_,rfl⟩);cases h0;rw [her]at hr;have:=hE m er her;exact vc_ (nnV hm1) (vZ_ rfl (by omega) hr.symm)
theorem yP_ {f:GS->List FV->Int->RSt} {s:GS} {r:List GS} {mem:List FV} {left:Int}:J_ f (s::r) mem left=if (f s mem left).e=0 then J_ f r (f s mem left).mem (f s mem left).left else f s mem left:=rfl
theorem p43 {now:Int} (hn: -9223372036854775808<=now/\now<=9223372036854775807):∀d:Nat,P43 now d
 |d,l,hL,hT,mem,left,hm,hl,hl2=>by
  refine vg_ (c:=c43) (n:=300) (t:=t43) mo ov rfl (λY _=>vD_ _) (by kernel_rfl) λY hf hg=>?_;unfold t43;refine vw_ (v2_ l) rfl (vc_ (nnV hm) ?_);generalize hres:J_ (j_ now d) l mem left=res at*;refine uJ_ (ι:=Nat×List FV×Int) (λs=>[.int .i64 (s.1:Int),c_ s.2.1,.int .i64 s.2.2]) (λs=>s.1<=l.length/\MemOk s.2.1/\0<=s.2.2/\s.2.2<=left/\J_ (j_ now d) (l.drop s.1) s.2.1 s.2.2=res) (λs=>l.length-s.1) (0,mem,left) ⟨Nat.zero_le _,hm,hl,Int.le_refl _,hres⟩ rfl (λs _=>by simp only [okL,okC,C_]) (λs s' _ _ h=>by simp at h;omega) (λs hs=>?_);obtain ⟨i,m,lf⟩:=s;obtain ⟨h1,hm1,hl1,hl3,hr⟩:=hs;simp only at h1 hm1 hl1 hl3 hr⊢
  (refine a_ rfl rfl ?_ ?_<;>intro h<;>simp only [nc]at h<;>try omega)
  .have hi:i<l.length:=(by omega);have hld:=ws_ l hi;have hs:=hT l[i] (List.getElem_mem hi);rw [List.drop_eq_getElem_cons hi,yP_]at hr;have hkk:=G_ hn d l[i] hs m lf hm1 hl1;have fin0:∀(r:RSt),j_ now d l[i] m lf=r->r.e=0->MemOk r.mem/\0<=r.left/\r.left<=left/\J_ (j_ now d) (l.drop (i+1)) r.mem r.left=res:=λr e h0=>(by rw [e]at hkk hr;rw [if_pos h0]at hr;have:=hkk.2.2.1 h0;exact ⟨hkk.1,this.1,by omega,hr⟩);have fin1:∀(r:RSt),j_ now d l[i] m lf=r->r.e≠0->MemOk r.mem/\res=r:=λr e h0=>(by rw [e]at hkk hr;rw [if_neg h0]at hr;exact ⟨hkk.1,hr.symm⟩);clear hr hkk;rcases hss:l[i]with ⟨op,to,e,thn,els,nm,kd,ad,args⟩;rw [hss]at hld hs fin0 fin1;obtain ⟨d,rfl⟩:∃e,d=e+1:=(by cases d with|zero=>exact hs.elim|succ d=>exact ⟨d,rfl⟩);have ih:=p43 hn d;obtain ⟨z1,z2,z3,z4,z5,z6,z7,z8,z9,z10⟩:=to;obtain ⟨e1,e2,e3,e4,e5,e6,e7,e8,e9,e10⟩:=e;refine vw_ (wr_ l hi) (oL_ okS _) (ve_ hld rfl (okS (.mk op (.mk z1 z2 z3 z4 z5 z6 z7 z8 z9 z10) (.mk e1 e2 e3 e4 e5 e6 e7 e8 e9 e10) thn els nm kd ad args)) ?_);have hok:=CE_ m now lf (.mk op (.mk z1 z2 z3 z4 z5 z6 z7 z8 z9 z10) (.mk e1 e2 e3 e4 e5 e6 e7 e8 e9 e10) thn els nm kd ad args)
   (refine a_ rfl rfl ?_ ?_<;>intro h<;>simp only [nc]at h<;>try omega)
   subst h;rcases hs with ⟨_,q2,q3,q4,q5,_⟩|⟨q1,_⟩|⟨q1,_⟩;have hc:=p73 (thn:=thn) (els:=els) (nm:=nm) (kd:=kd) (ad:=ad) (args:=args) hm1 now lf q2 q3 q4 q5;refine uv_ hc hok ⟨?_,?_,trivial⟩;rintro ws (⟨h0,_,rfl⟩|⟨_,h0,_⟩);obtain ⟨g1,g2,g3,g4⟩:=fin0 _ rfl h0;exact vw_ (g_ (by omega) (by omega)) rfl (vc_ (nnV g1) (uu_ rfl ⟨(i+1,_,_),⟨hi,g1,g2,g3,g4⟩,rfl,by simp only;omega⟩));cases h0;rintro ws (⟨_,h0,_⟩|⟨h0,_,rfl⟩);cases h0;obtain ⟨g1,g2⟩:=fin1 _ rfl h0;exact vc_ (nnV g1) (vZ_ rfl h0 g2);omega;omega;have n1:=h
   (refine a_ rfl rfl ?_ ?_<;>intro h<;>simp only [nc]at h<;>try omega)
   .subst h;rcases hs with ⟨q1,_⟩|⟨_,q2,_,q4,q5,q6,q7⟩|⟨q1,_⟩;omega
    .refine uv_ (p49 hm1 now lf 5 _ q2) (wB_ m now lf (.mk e1 e2 e3 e4 e5 e6 e7 e8 e9 e10)) ⟨?_,?_,trivial⟩
     .rintro ws (⟨v,hv,_,rfl⟩|⟨_,_,h0,_⟩)
      ·(refine a_ rfl rfl ?_ ?_<;>intro h<;>simp only [nc]at h<;>try omega)
       have hR:j_ now (d+1) (.mk 2 (.mk z1 z2 z3 z4 z5 z6 z7 z8 z9 z10) (.mk e1 e2 e3 e4 e5 e6 e7 e8 e9 e10) thn els nm kd ad args) m lf=J_ (j_ now d) thn m lf:=(by rw [j_,if_neg (by decide),if_pos rfl,hv];simp only;rw [if_pos h]);refine uv_ (ih thn q4 q6 m lf hm1 hl1 (by omega)) (z3_ m now lf thn) ⟨?_,?_,trivial⟩;rintro ws (⟨h0,_,rfl⟩|⟨_,h0,_⟩);obtain ⟨g1,g2,g3,g4⟩:=fin0 _ hR h0;exact vw_ (g_ (by omega) (by omega)) rfl (vc_ (nnV g1) (uu_ rfl ⟨(i+1,_,_),⟨hi,g1,g2,g3,g4⟩,rfl,by simp only;omega⟩));cases h0;rintro ws (⟨_,h0,_⟩|⟨h0,_,rfl⟩);cases h0;obtain ⟨g1,g2⟩:=fin1 _ hR h0;exact vc_ (nnV g1) (vZ_ rfl h0 g2);have hR:j_ now (d+1) (.mk 2 (.mk z1 z2 z3 z4 z5 z6 z7 z8 z9 z10) (.mk e1 e2 e3 e4 e5 e6 e7 e8 e9 e10) thn els nm kd ad args) m lf=J_ (j_ now d) els m lf:=(by rw [j_,if_neg (by decide),if_pos rfl,hv];simp only;rw [if_neg (by simpa using h)]);refine uv_ (ih els q5 q7 m lf hm1 hl1 (by omega)) (z3_ m now lf els) ⟨?_,?_,trivial⟩;rintro ws (⟨h0,_,rfl⟩|⟨_,h0,_⟩);obtain ⟨g1,g2,g3,g4⟩:=fin0 _ hR h0;exact vw_ (g_ (by omega) (by omega)) rfl (vc_ (nnV g1) (uu_ rfl ⟨(i+1,_,_),⟨hi,g1,g2,g3,g4⟩,rfl,by simp only;omega⟩));cases h0;rintro ws (⟨_,h0,_⟩|⟨h0,_,rfl⟩);cases h0;obtain ⟨g1,g2⟩:=fin1 _ hR h0;exact vc_ (nnV g1) (vZ_ rfl h0 g2)
      cases h0
     rintro ws (⟨_,_,h0,_⟩|⟨er,her,_,rfl⟩);cases h0;have hR:j_ now (d+1) (.mk 2 (.mk z1 z2 z3 z4 z5 z6 z7 z8 z9 z10) (.mk e1 e2 e3 e4 e5 e6 e7 e8 e9 e10) thn els nm kd ad args) m lf=⟨m,lf,er⟩:=(by rw [j_,if_neg (by decide),if_pos rfl,her]);have:=h_ _ _ her;obtain ⟨g1,g2⟩:=fin1 _ hR (by show er≠0;omega);exact vc_ (nnV hm1) (vZ_ rfl (by omega) g2)
    omega
   have n2:=h
   (refine a_ rfl rfl ?_ ?_<;>intro h<;>simp only [nc]at h<;>try omega)
   subst h;rcases hs with ⟨q1,_⟩|⟨_,q2,_,q4,q5,q6,q7⟩|⟨q1,_⟩;omega;have hc:=p74 (to:=.mk z1 z2 z3 z4 z5 z6 z7 z8 z9 z10) (thn:=thn) (els:=els) (nm:=nm) (kd:=kd) (ad:=ad) (args:=args) hn ih q2 q4 q6 hm1 hl1 (by omega);have hR:j_ now (d+1) (.mk 3 (.mk z1 z2 z3 z4 z5 z6 z7 z8 z9 z10) (.mk e1 e2 e3 e4 e5 e6 e7 e8 e9 e10) thn els nm kd ad args) m lf=v9_ (J_ (j_ now d) thn) (λm=>f_ m (.mk e1 e2 e3 e4 e5 e6 e7 e8 e9 e10)) (lf.toNat+1) m lf:=(by rw [j_,if_neg (by decide),if_neg (by decide),if_pos rfl]);refine uv_ hc hok ⟨?_,?_,trivial⟩;rintro ws (⟨h0,_,rfl⟩|⟨_,h0,_⟩);obtain ⟨g1,g2,g3,g4⟩:=fin0 _ hR h0;exact vw_ (g_ (by omega) (by omega)) rfl (vc_ (nnV g1) (uu_ rfl ⟨(i+1,_,_),⟨hi,g1,g2,g3,g4⟩,rfl,by simp only;omega⟩));cases h0;rintro ws (⟨_,h0,_⟩|⟨h0,_,rfl⟩);cases h0;obtain ⟨g1,g2⟩:=fin1 _ hR h0;exact vc_ (nnV g1) (vZ_ rfl h0 g2);omega;have n3:=h
   (refine a_ rfl rfl ?_ ?_<;>intro h<;>simp only [nc]at h<;>try omega)
   subst h;rcases hs with ⟨q1,_⟩|⟨q1,_⟩|⟨_,q2,q3,_⟩;omega;omega;have hc:=p75 (op:=4) (to:=.mk z1 z2 z3 z4 z5 z6 z7 z8 z9 z10) (e:=.mk e1 e2 e3 e4 e5 e6 e7 e8 e9 e10) (thn:=thn) (els:=els) (nm:=nm) hm1 hn lf q2 q3;have hR:j_ now (d+1) (.mk 4 (.mk z1 z2 z3 z4 z5 z6 z7 z8 z9 z10) (.mk e1 e2 e3 e4 e5 e6 e7 e8 e9 e10) thn els nm kd ad args) m lf=K_ now kd args m lf:=(by rw [j_,if_neg (by decide),if_neg (by decide),if_neg (by decide)]);refine uv_ hc hok ⟨?_,?_,trivial⟩;rintro ws (⟨h0,_,rfl⟩|⟨_,h0,_⟩);obtain ⟨g1,g2,g3,g4⟩:=fin0 _ hR h0;exact vw_ (g_ (by omega) (by omega)) rfl (vc_ (nnV g1) (uu_ rfl ⟨(i+1,_,_),⟨hi,g1,g2,g3,g4⟩,rfl,by simp only;omega⟩));cases h0;rintro ws (⟨_,h0,_⟩|⟨h0,_,rfl⟩);cases h0;obtain ⟨g1,g2⟩:=fin1 _ hR h0;exact vc_ (nnV g1) (vZ_ rfl h0 g2)
   .exfalso;rcases hs with ⟨q1,_⟩|⟨q1,_⟩|⟨q1,_⟩<;>omega
  have hi:i=l.length:=(by omega);subst hi;rw [List.drop_length]at hr;exact vc_ (nnV hm1) (w7_ rfl hr.symm)
theorem AD_ {mem:List FV} (h:MemOk mem):(XOp.bin .eql 31 false true).run Tryz.prog [c_ mem,.nsl]=some (.bool false):=by obtain ⟨m0,m1,m2,m3,m4,m5,m6,m7,m8,m9,m10,m11,m12,m13,m14,m15,m16,m17,m18,m19,m20,rfl⟩:=O_ h.len;kernel_rfl
theorem yl_ {mem:List FV} (h:MemOk mem):(XOp.app 3 24).run Tryz.prog [.vsl 0 3 [],c_ mem]=some (c_ mem):=by obtain ⟨m0,m1,m2,m3,m4,m5,m6,m7,m8,m9,m10,m11,m12,m13,m14,m15,m16,m17,m18,m19,m20,rfl⟩:=O_ h.len;kernel_rfl
theorem xx_ {a b:List FV} (ha:MemOk a) (hb:MemOk b):(some (c_ a)=some .nsl/\some (c_ b)=some .nsl)\/∃n z cs ds,some (c_ a)=some (.vsl n z cs)/\some (c_ b)=some (.vsl n z ds):=by
 have h1:=ha.len;have h2:=hb.len;cases a with
 |nil=>simp at h1
 |cons x r=>cases b with
  |nil=>simp at h2
  |cons y q=>have e:q.length=r.length:=(by simp at h1 h2;omega);refine .inr ⟨_,_,_,cf_ d_ (y::q),rfl,?_⟩;show some (AV.vsl (q.length+1) 3 _)=_;rw [e]
def RQ (r:RSt):Nat->List AV->Prop:=λ_ ws=>ws=[c_ r.mem,.int .i64 r.e]
theorem CQ_ {now:Int} {d:Nat} {mem:List FV} (hm:MemOk mem) (left:Int):CF Tryz.prog 43 wh_ (MR mem now left++[.vsl 0 27 []]) (RR (J_ (j_ now d) [] mem left)):=by
 refine vg_ (c:=c43) (n:=300) (t:=t43) mo ov rfl (λY _=>vD_ _) (by kernel_rfl) λY hf hg=>?_;unfold t43;refine vw_ (r:=.int .i64 0) rfl rfl (vc_ (nnV hm) ?_);refine uJ_ (ι:=Unit) (λs=>[.int .i64 0,c_ mem,.int .i64 left]) (λs=>True) (λs=>0) () trivial rfl (λs _=>by simp only [okL,okC,C_]) (λs s' _ _ h=>rfl) (λs hs=>?_)
 (refine a_ rfl rfl ?_ ?_<;>intro h<;>simp only [nc]at h<;>try omega)
 exact vc_ (nnV hm) (w7_ rfl rfl)
theorem CR_ {now:Int} (hn: -9223372036854775808<=now/\now<=9223372036854775807) (d:Nat) {l:List GS} {b:AV} (hb:SlV v_ 27 l b) (hL:l.length<=5) (hT:∀s∈l,TS d s) {mem:List FV} {left:Int} (hm:MemOk mem) (hl:0<=left) (hl2:left<=100000):
  CF Tryz.prog 43 wh_ (MR mem now left++[b]) (RR (J_ (j_ now d) l mem left)):=by
 by_cases h0:l=[];subst h0;rcases hb with rfl|⟨_,rfl⟩;exact CQ_ hm left;exact p43 hn d [] hL hT mem left hm hl hl2;rw [hb.eq h0,←uO_];exact p43 hn d l hL hT mem left hm hl hl2
theorem CO_ {now:Int} (hn: -9223372036854775808<=now/\now<=9223372036854775807) {d:Nat} {l:List GS} {b:AV} (hb:SlV v_ 27 l b) (hL:l.length<=5) (hT:∀s∈l,TS d s) (vars:AV) (hv:okC vars=true) {mem:List FV} (hm:MemOk mem) {left:Int} (hl:0<=left) (hl2:left<=100000):
  CF Tryz.prog 16 ft16 [vars,b,c_ mem,.int .i64 now,.int .i64 left] (RQ (J_ (j_ now d) l mem left)):=by
 have hkk:=I_ (f:=j_ now d) l mem left (λs hs m l hm hl=>G_ hn d s (hT s hs) m l hm hl) hm hl;refine vg_ (c:=c16) (n:=300) (t:=t16) mo ov rfl (λY _=>vD_ _) (by kernel_rfl) λY hf hg=>?_;unfold t16;refine vw_ (AD_ hm) rfl (vd_ rfl (λh=>by cases h) (λ_=>?_));refine vw_ (yl_ hm) (C_ mem) ?_;have h43:=CR_ hn d hb hL hT hm hl hl2;have hbo:=hb.ok okS;generalize J_ (j_ now d) l mem left=res at*;refine uv_ h43 (show okL (MR mem now left++[b])=true from zf_ mem now left (by simp only [okL,hbo])) ⟨?_,?_,trivial⟩;rintro ws (⟨h0,_,rfl⟩|⟨_,h0,_⟩);exact vc_ (xx_ hm hkk.1) (VOK_fin (ok2 _ _) (show _=[c_ res.mem,.int .i64 res.e] by rw [h0];rfl));cases h0;rintro ws (⟨_,h0,_⟩|⟨h0,_,rfl⟩);cases h0;exact vc_ (xx_ hm hkk.1) (VOK_fin (ok2 _ _) (show _=[c_ res.mem,.int .i64 res.e] from rfl))
theorem p16 {now:Int} (hn: -9223372036854775808<=now/\now<=9223372036854775807) {d:Nat} {l:List GS} (hL:l.length<=5) (hT:∀s∈l,TS d s) (vars:AV) (hv:okC vars=true) {mem:List FV} (hm:MemOk mem) {left:Int} (hl:0<=left) (hl2:left<=100000):
 CF Tryz.prog 16 ft16 [vars,A_ l,c_ mem,.int .i64 now,.int .i64 left] (RQ (J_ (j_ now d) l mem left)):=CO_ hn (by rw [uO_];exact SlV.of l) hL hT vars hv hm hl hl2
def Cm_:VC:=⟨⟨[],[]⟩,[(51,[(some 3),none]),(50,[(some 3),none])],[(1,[⟨[(4,.ptr 2 0),(6,.slx 3 3 0),(7,.slx 1 0 0),(1,.ptx 0 64 3 0),(2,.ptr 1 0)],[(2,[J 0,J 0,.flt .f64 0]),(1,[65,66,67,68,69,70,71,72,73,74])],4,2,[⟨3,3,0,6,none⟩],[],[(0,64)]⟩])],1,true,[(23,wU_)]⟩
def Bt_:VT:=Iq 65 1 75 (Dn [71,72,73,J 0])<|Iq 65 2 76 (Li Q1 [64,69] 77<|.lt Q9 [64,77] 78 (some 3)<|Dn [78,79,80,J 0])<|.loop 77 0 [.nsl,J 0] (.cons 2 (Li Qe [74] 79<|It Q4 [78,79] 80 (Li Qa [74,78] 81<|.lt Qd [81] 82 (some 10)<|Cf 23 wU_ [64,82,83,84,85,86,87,88,89,90,91] 92 4<|It Q5 [106,J 0] 107 (Dn [J 0,J 0,.flt .f64 0,106])<|Li Qg [77,.agg [103,104,105]] 108<|Li Q2 [78,J 1] 109<|.again 0 0 [108,109])<|Iq 65 3 81 (Li Q1 [77,J 0] 82<|Li Qr [77,82] 83<|It Z2 [83,J 0] 84 (Dn [J 0,J 0,.flt .f64 0,J 6])<|Li Q1 [77,J 0] 85<|Li Qr [77,85] 86<|It Qo [86,70] 87 (Dn [J 0,J 0,.flt .f64 0,J 6])<|Li Q1 [77,J 0] 88<|Li Qr [77,88] 89<|Li Qv [69,89] 90<|Li Q1 [64,90] 91<|.lt Q9 [64,91] 92 (some 3)<|Dn [92,93,94,J 0])<|Iq 65 17 82 (Li Q1 [77,J 0] 83<|.lt Q9 [77,83] 84 (some 3)<|.call 50 [66,.agg [84,85,86]] 87 [(some 3),none]<|Dn [87,88,89,90])<|Li Qg [77,.agg [J 0,J 0,.flt .f64 0]] 83<|Li Qa [74,J 0] 84<|Li Ze [84] 85<|Li Qu [85] 86<|Li Q1 [83,J 0] 87<|.lt Q9 [83,87] 88 (some 3)<|Li Q1 [83,J 1] 91<|.lt Q9 [83,91] 92 (some 3)<|.call 51 [65,86,.agg [88,89,90],.agg [92,93,94]] 95 [(some 3),none]<|Dn [95,96,97,98]) .nil)
theorem xo_ {r:Except Int FV} {v:FV} {hv:List AV} {Y:Sy} {L:List (Nat->List AV->Prop)} (h:ab_ Y.v hv=d_ v++[.int .i64 0]) (hr:r=.ok v):VOK Tryz.prog (QF (REv r)) L Y (.done (.tup (.int .i64 0::hv))):=
 VOK_fin (j:=0) (by rw [h];exact xs_ v 0) (by show ab_ Y.v hv=_;rw [h,hr];rfl)
theorem xn_ {r:Except Int FV} {e:Int} {hv:List AV} {Y:Sy} {L:List (Nat->List AV->Prop)} (h:ab_ Y.v hv=d_ FV.z++[.int .i64 e]) (hr:r=.error e):VOK Tryz.prog (QF (REv r)) L Y (.done (.tup (.int .i64 0::hv))):=
 VOK_fin (j:=0) (by rw [h];exact xs_ FV.z e) (by show ab_ Y.v hv=_;rw [h,hr];rfl)
theorem fev {r:Except Int FV} {v:FV} {e:Int} {hv:List AV} {Y:Sy} {L:List (Nat->List AV->Prop)} (h:ab_ Y.v hv=d_ v++[.int .i64 e]) (hr:AV.tup [.agg (d_ v),.int .i64 e]=OUT r):VOK Tryz.prog (QF (REv r)) L Y (.done (.tup (.int .i64 0::hv))):=
 VOK_fin (j:=0) (by rw [h];exact xs_ v e) (by
  show ab_ Y.v hv=_;rw [h];injection hr with hr
  injection hr with h1 h2
  injection h1 with h1
  injection h2 with h2
  rw [h1,h2])
theorem wG_ (mem:List FV) (x:GX):okL (c_ mem::k_ x)=true:=oL_.okL_join (a:=[c_ mem]) (by simp only [okL,okC,C_]) (okX x)
theorem yd_ {mem:List FV} (hm:MemOk mem):∀(d:Nat) (x:GX),TX d x->CF Tryz.prog 23 wU_ (c_ mem::k_ x) (REv (f_ mem x))
 |0,_,h=>h.elim
 |d+1,.mk op kd nm fd ad n vk vi vf args,hx=>by
  have hlen:=hm.len;have ih:=λ(z:GX) (hz:z∈args)=>yd_ hm d z (hx.2.2.2.2.2 z hz);have hA:=hx.1;have hal:args.length<=2:=(by unfold Ari at hA;omega);have hop:=zA_ hx;refine vg_ (c:=Cm_) (n:=300) (t:=Bt_) mo ov (by rw [List.length_cons,nZ_];rfl) (λY _=>vD_ _) (by kernel_rfl) λY hf hg=>?_;unfold Bt_
  (refine a_ rfl rfl ?_ ?_<;>intro h<;>simp only [nc]at h<;>try omega)
  exact xo_ (v:=⟨vk,vi,some vf⟩) rfl (wF_ h);have n1:=h
  (refine a_ rfl rfl ?_ ?_<;>intro h<;>simp only [nc]at h<;>try omega)
  obtain ⟨_,_,a0,a1⟩:=wT_ hm hx h;obtain ⟨m,rfl⟩:∃m:Nat,ad=(m:Int):=⟨ad.toNat,by omega⟩;have hml:m<mem.length:=(by omega);refine vw_ (D_ mem hml) rfl (ve_ (vV_ mem hml) rfl (okV _) ?_);exact xo_ (v:=mem[m]) rfl (by rw [wg_ h,vv_ hml]);have n2:=h;refine uJ_ (ι:=List FV×Nat) (λs=>[c_ s.1,.int .i64 (s.2:Int)]) (λs=>s.1.length=s.2/\s.2<=args.length/\v7_ mem args s.1 s.2) (λs=>args.length-s.2) ([],0) ⟨rfl,Nat.zero_le _,w0_ _ _⟩ rfl (λs _=>by simp only [okL,okC,C_]) (λs s' _ _ h=>by simp at h;omega) (λs hs=>?_);obtain ⟨acc,i⟩:=s;obtain ⟨h1,h2,h3⟩:=hs;simp only at h1 h2 h3⊢;refine vw_ (r_ args) rfl ?_
  (refine a_ rfl rfl ?_ ?_<;>intro h<;>simp only [nc]at h<;>try omega)
  .have hi:i<args.length:=(by omega);have hld:=q_ args hi;have hz:=ih args[i] (List.getElem_mem hi);have hrx:=λv=>wd_ (v:=v) h3 hi;have hre:=λe=>wc_ (e:=e) h3 hi;rcases hzz:args[i]with ⟨zo,zk,znm,zfd,zad,zn,zvk,zvi,zvf,za⟩;rw [hzz]at hld hz hrx hre;refine vw_ (m_ args hi) (oL_ okX _) (ve_ hld rfl (okX (.mk zo zk znm zfd zad zn zvk zvi zvf za)) ?_);refine uv_ hz (wG_ mem (.mk zo zk znm zfd zad zn zvk zvi zvf za)) ⟨?_,trivial⟩;rintro ws hws;cases hr:f_ mem (.mk zo zk znm zfd zad zn zvk zvi zvf za)with
   |error e=>
    have e0:=h_ _ _ hr;obtain rfl:ws=d_ FV.z++[.int .i64 e]:=by rw [hr]at hws;exact hws
    (refine a_ rfl rfl ?_ ?_<;>intro h<;>simp only [nc]at h<;>try omega)
    exact xn_ (e:=e) rfl (sl_ n1 n2 (hre e hr))
   |ok v=>
    obtain rfl:ws=d_ v++[.int .i64 0]:=by rw [hr]at hws;exact hws
    (refine a_ rfl rfl ?_ ?_<;>intro h<;>simp only [nc]at h<;>try omega)
    exact vw_ (W_ acc v (by omega)) (C_ _) (vw_ (g_ (by omega) (by omega)) rfl (uu_ rfl ⟨(acc++[v],i+1),⟨by simp;omega,hi,hrx v hr⟩,rfl,by simp only;omega⟩))
  have hi:i=args.length:=(by omega);subst hi;have hL:=wo_ h3;have hV:=tt_ (R_ hm d) args hx.2.2.2.2.2 acc hL;have hX:=hT_ (mem:=mem) (kd:=kd) (nm:=nm) (fd:=fd) (ad:=ad) (n:=n) (vk:=vk) (vi:=vi) (vf:=vf) n1 n2 hL;obtain ⟨a,b,ea,eb,ta,tb,k3,k17,ko,_⟩:=wj_ hm hx n1 n2 hV;rw [ea,eb]at hX;have q3:=hx.2.2.2.2.1.2.2.1;have q17:=hx.2.2.2.2.1.2.2.2.2.2.2
  (refine a_ rfl rfl ?_ ?_<;>intro h<;>simp only [nc]at h<;>try omega)
  .have e3:=h;obtain ⟨ka,rfl⟩:=k3 h;obtain ⟨rfl,rfl,rfl,_⟩:=q3 h;have hX:f_ mem (.mk op 2 nm fd 8 4 vk vi vf args)=(if a.i<0\/4<=a.i then .error 6 else .ok (cell mem (8+a.i))):=(by rw [hX,T_,if_pos e3]);refine vw_ rfl rfl (vw_ (r:=.int .i64 a.i) rfl rfl ?_)
   (refine a_ rfl rfl ?_ ?_<;>intro h<;>simp only [nc]at h<;>try omega)
   exact xn_ (e:=6) rfl (by rw [hX,if_pos (.inl h)]);refine vw_ rfl rfl (vw_ (r:=.int .i64 a.i) rfl rfl ?_)
   (refine a_ rfl rfl ?_ ?_<;>intro h<;>simp only [nc]at h<;>try omega)
   exact xn_ (e:=6) rfl (by rw [hX,if_pos (.inr h)]);have hr:¬(a.i<0\/4<=a.i):=(by omega);rw [if_neg hr]at hX;obtain ⟨m,em⟩:∃m:Nat,8+a.i=(m:Int):=⟨(8+a.i).toNat,by omega⟩;have hml:m<mem.length:=(by omega);rw [em,vv_ hml]at hX;refine vw_ rfl rfl (vw_ (r:=.int .i64 a.i) rfl rfl (vw_ (g_ (by omega) (by omega)) rfl ?_));rw [em];exact vw_ (D_ mem hml) rfl (ve_ (vV_ mem hml) rfl (okV _) (xo_ (v:=mem[m]) rfl hX))
  have n3:=h;rw [T_,if_neg n3]at hX
  (refine a_ rfl rfl ?_ ?_<;>intro h<;>simp only [nc]at h<;>try omega)
  have e17:=h;obtain ⟨ka,kb,rfl⟩:=k17 h;rw [if_pos e17]at hX;refine vw_ rfl rfl (ve_ (cs:=d_ a) rfl rfl (okV _) ?_);refine uH_ (vs:=d_ (vk_ kd a)++[.int .i64 (vi_ kd a)]) (p50 (by have:=q17 e17;omega) a ⟨by omega,by omega⟩) rfl (xs_ _ _) (fev rfl ?_);rw [zU_,hX];have n17:=h;obtain ⟨oK,bk,ok,hvs⟩:=ko n3 n17;rw [if_neg n17]at hX;have hks:=hV.1;rcases hvs with ⟨rfl,hu⟩|⟨rfl,hu⟩;obtain ⟨y,rfl,yk⟩:=vE_ hks.symm;refine vw_ (W_ [a] FV.z (by simp)) (C_ _) (vw_ (m_ [y] (i:=0) (by simp)) (oL_ okX _) (vw_ (yp_ y _) (oL_.okL_join (xM_ y) (oL_ okX _)) (vw_ (xa_ y _) rfl ?_)));rw [yk];refine vw_ rfl rfl (ve_ (cs:=d_ a) rfl rfl (okV _) (vw_ rfl rfl (ve_ (cs:=d_ FV.z) rfl rfl rfl ?_)));refine uH_ (vs:=d_ (opW op a.k a FV.z)++[.int .i64 (opE op a.k FV.z)]) (p51 oK ta rfl) rfl (xs_ _ _) (fev rfl ?_);rw [AR_,hX,z7_ FV.z b hu oK];rfl;obtain ⟨y,z,rfl,yk,zk⟩:=yA_ hks.symm;refine vw_ (W_ [a,b] FV.z (by simp)) (C_ _) (vw_ (m_ [y,z] (i:=0) (by simp)) (oL_ okX _) (vw_ (yp_ y _) (oL_.okL_join (xM_ y) (oL_ okX _)) (vw_ (xa_ y _) rfl ?_)));rw [yk];refine vw_ rfl rfl (ve_ (cs:=d_ a) rfl rfl (okV _) (vw_ rfl rfl (ve_ (cs:=d_ b) rfl rfl (okV _) ?_)));refine uH_ (vs:=d_ (opW op a.k a b)++[.int .i64 (opE op a.k b)]) (p51 oK ta rfl) rfl (xs_ _ _) (fev rfl ?_);rw [AR_,hX];rfl
def Cr_:VC:=⟨⟨[],[]⟩,[(89,[none])],[],1,true,[]⟩
def By_:VT:=It Q7 [100,J 1] 130 (Dn [100,101,102,103,104,105,106,107,108,109,110,111])<|It Q7 [103,J 4] 131 (Dn [100,101,102,103,104,105,106,107,108,109,110,111])<|It Q7 [106,J 1] 132 (Dn [100,101,102,103,104,105,106,107,108,109,110,111])<|It Q7 [109,J 4] 133 (Dn [100,101,102,103,104,105,106,107,108,109,110,111])<|Li (.mm true) [128,J 0] 134<|Li Q8 [101,J 0] 135<|Li Q8 [107,J 0] 136<|It Q3 [127] 137 (.call 89 [.bool false] 138 [none]<|.call 89 [.bool false] 139 [none]<|Dn [100,138,102,103,J 0,105,106,139,108,109,J 0,111])<|It Q3 [136] 138 (It Zr [129,129] 139 (Li Qq [J 0,134] 140<|.call 89 [140] 141 [none]<|.call 89 [.bool true] 142 [none]<|Dn [100,141,102,103,J 0,105,106,142,108,109,129,111])<|Li Qy [129] 140<|Li Qy [129] 141<|Li Zu [140,141] 142<|Li Qy [134] 143<|It Uk [142,143] 144 (Li Qq [134,134] 145<|.call 89 [145] 146 [none]<|.call 89 [.bool true] 147 [none]<|Dn [100,146,102,103,134,105,106,147,108,109,129,111])<|Li Zw [142] 145<|Li Qq [145,134] 146<|.call 89 [146] 147 [none]<|.call 89 [.bool true] 148 [none]<|Dn [100,147,102,103,145,105,106,148,108,109,129,111])<|It Zr [129,110] 139 (Li Qq [J 0,134] 140<|.call 89 [140] 141 [none]<|.call 89 [136] 142 [none]<|Dn [100,141,102,103,J 0,105,106,142,108,109,110,111])<|Li Qy [129] 140<|Li Qy [110] 141<|Li Zu [140,141] 142<|Li Qy [134] 143<|It Uk [142,143] 144 (Li Qq [134,134] 145<|.call 89 [145] 146 [none]<|.call 89 [136] 147 [none]<|Dn [100,146,102,103,134,105,106,147,108,109,110,111])<|Li Zw [142] 145<|Li Qq [145,134] 146<|.call 89 [146] 147 [none]<|.call 89 [136] 148 [none]<|Dn [100,147,102,103,145,105,106,148,108,109,110,111]
def Cs_:VC:=⟨⟨[],[]⟩,[(89,[none])],[],1,true,[]⟩
def Bz_:VT:=Dn [112,113,114,115,116,117,118,119,120]
def Ct_:VC:=⟨⟨[],[]⟩,[(89,[none])],[],1,true,[]⟩
def BA_:VT:=Dn [121,122,123,124,125,126]
def Cu_:VC:=⟨⟨[],[]⟩,[(89,[none])],[],1,true,[]⟩
def BB_:VT:=It Q7 [112,J 1] 129 (Dn [112,113,114,115,116,117,118,119,120])<|It Q7 [115,J 2] 130 (Dn [112,113,114,115,116,117,118,119,120])<|It Q7 [118,J 1] 131 (Dn [112,113,114,115,116,117,118,119,120])<|Li Q8 [119,J 0] 132<|.call 89 [127] 133 [none]<|.ite 127 (It Q3 [132] 134 (Li Ui [116,J 1] 135<|Li Zv [135,J 32767] 136<|Li Qo [136,128] 137<|.call 89 [137] 138 [none]<|Dn [112,138,114,115,136,117,118,133,120])<|Li Qo [116,128] 135<|.call 89 [135] 136 [none]<|Dn [112,136,114,115,116,117,118,133,120])<|Li Qo [116,128] 134<|.call 89 [134] 135 [none]<|Dn [112,135,114,115,116,117,118,133,120]
def Cv_:VC:=⟨⟨[],[]⟩,[(89,[none])],[],1,true,[]⟩
def BC_:VT:=It Q7 [121,J 1] 129 (Dn [121,122,123,124,125,126])<|It Q7 [124,J 1] 130 (Dn [121,122,123,124,125,126])<|Li Q8 [125,J 0] 131<|.call 89 [127] 132 [none]<|.ite 127 (Li Q3 [131] 133<|.call 89 [133] 134 [none]<|Dn [121,134,123,124,132,126])<|.call 89 [.bool false] 133 [none]<|Dn [121,133,123,124,132,126]
def Cn_:VC:=⟨⟨[],[]⟩,[],[(10001,[⟨[],[],0,0,[⟨0,3,21,0,none⟩],[],[]⟩])],1,true,[(98,wX_)]⟩
def Bu_:VT:=Li Qg [67,.agg [J 0,J 0,.flt .f64 0]] 69<|.lt Z4 [64] 70 (some 63)<|Li Q1 [69,J 0] 133<|Li Qr [69,133] 134<|Li Q8 [134,J 0] 135<|Li Q1 [69,J 1] 136<|Li Qr [69,136] 137<|Cf 98 wX_ [70,71,72,73,74,75,76,77,78,79,80,81,82,83,84,85,86,87,88,89,90,91,92,93,94,95,96,97,98,99,100,101,102,103,104,105,106,107,108,109,110,111,112,113,114,115,116,117,118,119,120,121,122,123,124,125,126,127,128,129,130,131,132,135,137,68] 138 12<|Dn [.vsl 21 3 [70,71,72,73,74,75,76,77,78,79,80,81,82,83,84,85,86,87,88,89,90,91,92,93,94,95,96,97,98,99,100,101,102,103,104,105,204,205,206,207,208,209,210,211,212,213,214,215,118,119,120,121,122,123,124,125,126,127,128,129,130,131,132]]
def Co_:VC:=⟨⟨[],[]⟩,[],[(10001,[⟨[],[],0,0,[⟨0,3,21,0,none⟩],[],[]⟩])],1,true,[(98,zZ_),(99,wV_)]⟩
def Bv_:VT:=Li Qg [67,.agg [J 0,J 0,.flt .f64 0]] 69<|.lt Z4 [64] 70 (some 63)<|Li Q1 [69,J 0] 133<|Li Qr [69,133] 134<|Li Q8 [134,J 0] 135<|Li Q1 [69,J 1] 136<|Li Qr [69,136] 137<|Cf 98 zZ_ [70,71,72,73,74,75,76,77,78,79,80,81,82,83,84,85,86,87,88,89,90,91,92,93,94,95,96,97,98,99,100,101,102,103,104,105,106,107,108,109,110,111,112,113,114,115,116,117,118,119,120,121,122,123,124,125,126,127,128,129,130,131,132,135,137,68] 138 9<|Li Q1 [69,J 0] 213<|Li Qr [69,213] 214<|Li Q8 [214,J 0] 215<|Li Q1 [69,J 1] 216<|Li Qr [69,216] 217<|Cf 99 wV_ [70,71,72,73,74,75,76,77,78,79,80,81,82,83,84,85,86,87,88,89,90,91,92,93,94,95,96,97,98,99,100,101,102,103,104,105,106,107,108,109,110,111,112,113,114,115,116,117,118,119,120,121,122,123,124,125,126,127,128,129,130,131,132,215,217] 218 9<|Dn [.vsl 21 3 [70,71,72,73,74,75,76,77,78,79,80,81,82,83,84,85,86,87,88,89,90,91,92,93,94,95,96,97,98,99,100,101,102,103,104,105,106,107,108,109,110,111,112,113,114,115,116,117,283,284,285,286,287,288,289,290,291,127,128,129,130,131,132]]
def Cp_:VC:=⟨⟨[],[]⟩,[],[(10001,[⟨[],[],0,0,[⟨0,3,21,0,none⟩],[],[]⟩])],1,true,[(98,z0_),(99,wW_)]⟩
def Bw_:VT:=Li Qg [67,.agg [J 0,J 0,.flt .f64 0]] 69<|.lt Z4 [64] 70 (some 63)<|Li Q1 [69,J 0] 133<|Li Qr [69,133] 134<|Li Q8 [134,J 0] 135<|Li Q1 [69,J 1] 136<|Li Qr [69,136] 137<|Cf 98 z0_ [70,71,72,73,74,75,76,77,78,79,80,81,82,83,84,85,86,87,88,89,90,91,92,93,94,95,96,97,98,99,100,101,102,103,104,105,106,107,108,109,110,111,112,113,114,115,116,117,118,119,120,121,122,123,124,125,126,127,128,129,130,131,132,135,137,68] 138 6<|Li Q1 [69,J 0] 210<|Li Qr [69,210] 211<|Li Q8 [211,J 0] 212<|Li Q1 [69,J 1] 213<|Li Qr [69,213] 214<|Cf 99 wW_ [70,71,72,73,74,75,76,77,78,79,80,81,82,83,84,85,86,87,88,89,90,91,92,93,94,95,96,97,98,99,100,101,102,103,104,105,106,107,108,109,110,111,112,113,114,115,116,117,118,119,120,121,122,123,124,125,126,127,128,129,130,131,132,212,214] 215 6<|Dn [.vsl 21 3 [70,71,72,73,74,75,76,77,78,79,80,81,82,83,84,85,86,87,88,89,90,91,92,93,94,95,96,97,98,99,100,101,102,103,104,105,106,107,108,109,110,111,112,113,114,115,116,117,118,119,120,121,122,123,124,125,126,280,281,282,283,284,285]]
theorem CZ_ {mem:List FV} (hm:MemOk mem) (inn:Bool) {v now:Int} (hv: -9223372036854775808<=v/\v<=9223372036854775807) (hn: -9223372036854775808<=now/\now<=9223372036854775807):
  CF Tryz.prog 98 wX_ (cf_ d_ mem++[.bool inn,.int .i64 v,.int .i64 now]) (RBk (q0_ (ci_ mem 14) (ci_ mem 15) inn v now)):=by
 obtain ⟨m0,m1,m2,m3,m4,m5,m6,m7,m8,m9,m10,m11,m12,m13,m14,m15,m16,m17,m18,m19,m20,rfl⟩:=O_ hm.len;have hm':=MemOk.of.1 hm;obtain ⟨⟨k0,k1,k2,k3,k4,k5,k6,k7,k8,k9,k10,k11,k12,k13,k14,k15,k16,k17,k18,k19,k20⟩,t0,t1,t2,t3,t4,t5,t6,t7,t8,t9,t10,t11,t12,t13,t14,t15,t16,t17,t18,t19,t20⟩:=hm';obtain ⟨i12,rfl,h12⟩:=n_ t12 k12 (by decide);obtain ⟨i13,rfl,h13⟩:=n_ t13 k13 (by decide);obtain ⟨i14,rfl,h14⟩:=n_ t14 k14 (by decide);obtain ⟨i15,rfl,h15⟩:=n_ t15 k15 (by decide);show CF Tryz.prog 98 wX_ _ (RBk (q0_ i14 i15 inn v now));have ha:=h15.i64;refine vg_ (c:=Cr_) (n:=300) (t:=By_) mo ov rfl (λY _=>vD_ _) (by kernel_rfl) λY hf hg=>?_;unfold By_;refine vw_ (r:=.bool false) rfl rfl (vd_ (t:=false) rfl (λh=>by cases h) (λ_=>?_));refine vw_ (r:=.bool false) rfl rfl (vd_ (t:=false) rfl (λh=>by cases h) (λ_=>?_));refine vw_ (r:=.bool false) rfl rfl (vd_ (t:=false) rfl (λh=>by cases h) (λ_=>?_));refine vw_ (r:=.bool false) rfl rfl (vd_ (t:=false) rfl (λh=>by cases h) (λ_=>?_));refine vw_ (r:=.int .i64 (max v 0)) rfl rfl (vw_ (run_neq ..) rfl (vw_ (run_neq ..) rfl (vw_ (vr_ ..) rfl ?_)));cases inn with
 |false=>exact vd_ (t:=true) rfl (λ_=>uH_ (p89 false) rfl rfl (uH_ (p89 false) rfl rfl (mW_ rfl))) (λh=>by cases h)
 |true=>
  refine vd_ (t:=false) rfl (λh=>by cases h) (λ_=>vw_ (vr_ ..) rfl (vd_ rfl (λh=>?_) (λh=>?_)))
  .have h0:i14=0:=(by simpa using h);have e:q0_ i14 i15 true v now=[bv (decide (0=max v 0)),tv 0,bv true,tv now]:=(by unfold q0_;rw [if_neg (by decide),if_pos h0]);rw [e]
   (refine a_ rfl rfl ?_ ?_<;>intro h<;>simp only [nc]at h<;>try omega)
   exact vw_ (run_eql ..) rfl (uH_ (p89 _) rfl rfl (uH_ (p89 true) rfl rfl (mW_ rfl)))
  .have h0:i14≠0:=(by simpa using h);have e139:(!decide (i14=0))=true:=(by simpa using h0);have e:q0_ i14 i15 true v now=[bv (decide (U_ now i15 (max v 0)=max v 0)),tv (U_ now i15 (max v 0)),bv (!decide (i14=0)),tv i15]:=(by unfold q0_;rw [if_neg (by decide),if_neg h0,e139]);rw [e]
   (refine a_ rfl rfl ?_ ?_<;>intro h<;>simp only [nc]at h<;>try omega)
   have hp:U_ now i15 (max v 0)=0:=(by unfold U_;rw [if_pos (by omega)]);rw [hp];exact vw_ (run_eql ..) rfl (uH_ (p89 _) rfl rfl (uH_ (p89 (!decide (i14=0))) rfl rfl (mW_ rfl)))
   .have hp:U_ now i15 (max v 0)=min (now-i15) (max v 0):=(by unfold U_;rw [if_neg (by omega)]);rw [hp];refine vw_ (cvU now) rfl (vw_ (cvU i15) rfl (vw_ (run_sub ..) rfl ?_));rw [A6_ (by omega) (by omega)];refine vw_ (cvU _) rfl ?_;rw [zO_ (x:=max v 0) (by omega) (by omega)]
    (refine a_ rfl rfl ?_ ?_<;>intro h<;>simp only [nc]at h<;>try omega)
    have hq:min (now-i15) (max v 0)=max v 0:=(by omega);rw [hq];exact vw_ (run_eql ..) rfl (uH_ (p89 _) rfl rfl (uH_ (p89 (!decide (i14=0))) rfl rfl (mW_ rfl)));have hq:min (now-i15) (max v 0)=now-i15:=(by omega);rw [hq];exact vw_ (AB_ _ (by omega) (by omega)) rfl (vw_ (run_eql ..) rfl (uH_ (p89 _) rfl rfl (uH_ (p89 (!decide (i14=0))) rfl rfl (mW_ rfl))))
theorem C0_ {mem:List FV} (hm:MemOk mem) (inn:Bool) (v now:Int):
  CF Tryz.prog 98 zZ_ (cf_ d_ mem++[.bool inn,.int .i64 v,.int .i64 now]) (RBk ((mem.drop 16).take 3)):=by
 obtain ⟨m0,m1,m2,m3,m4,m5,m6,m7,m8,m9,m10,m11,m12,m13,m14,m15,m16,m17,m18,m19,m20,rfl⟩:=O_ hm.len;refine vg_ (c:=Cs_) (n:=300) (t:=Bz_) mo ov rfl (λY _=>vD_ _) (by kernel_rfl) λY hf hg=>?_;unfold Bz_;exact mW_ rfl
theorem C1_ {mem:List FV} (hm:MemOk mem) (inn:Bool) (v now:Int):
  CF Tryz.prog 98 z0_ (cf_ d_ mem++[.bool inn,.int .i64 v,.int .i64 now]) (RBk ((mem.drop 19).take 2)):=by
 obtain ⟨m0,m1,m2,m3,m4,m5,m6,m7,m8,m9,m10,m11,m12,m13,m14,m15,m16,m17,m18,m19,m20,rfl⟩:=O_ hm.len;refine vg_ (c:=Ct_) (n:=300) (t:=BA_) mo ov rfl (λY _=>vD_ _) (by kernel_rfl) λY hf hg=>?_;unfold BA_;exact mW_ rfl
theorem C2_ {mem:List FV} (hm:MemOk mem) (inn:Bool) (v:Int):
  CF Tryz.prog 99 wV_ (cf_ d_ mem++[.bool inn,.int .i64 v]) (RBk (nw_ (ci_ mem 17) (ci_ mem 18) inn v)):=by
 obtain ⟨m0,m1,m2,m3,m4,m5,m6,m7,m8,m9,m10,m11,m12,m13,m14,m15,m16,m17,m18,m19,m20,rfl⟩:=O_ hm.len;have hm':=MemOk.of.1 hm;obtain ⟨⟨k0,k1,k2,k3,k4,k5,k6,k7,k8,k9,k10,k11,k12,k13,k14,k15,k16,k17,k18,k19,k20⟩,t0,t1,t2,t3,t4,t5,t6,t7,t8,t9,t10,t11,t12,t13,t14,t15,t16,t17,t18,t19,t20⟩:=hm';obtain ⟨i16,rfl,h16⟩:=n_ t16 k16 (by decide);obtain ⟨i17,rfl,h17⟩:=n_ t17 k17 (by decide);obtain ⟨i18,rfl,h18⟩:=n_ t18 k18 (by decide);show CF Tryz.prog 99 wV_ _ (RBk (nw_ i17 i18 inn v));have hc: -32768<=i17/\i17<=32767:=by rcases h17 with q|q|q|q|q<;>omega
 refine vg_ (c:=Cu_) (n:=300) (t:=BB_) mo ov rfl (λY _=>vD_ _) (by kernel_rfl) λY hf hg=>?_;unfold BB_;refine vw_ (r:=.bool false) rfl rfl (vd_ (t:=false) rfl (λh=>by cases h) (λ_=>?_));refine vw_ (r:=.bool false) rfl rfl (vd_ (t:=false) rfl (λh=>by cases h) (λ_=>?_));refine vw_ (r:=.bool false) rfl rfl (vd_ (t:=false) rfl (λh=>by cases h) (λ_=>?_));refine vw_ (run_neq ..) rfl (uH_ (p89 inn) rfl rfl ?_);cases inn with
 |false=>have e:nw_ i17 i18 false v=[bv (decide (v<=i17)),nv i17,bv false]:=rfl;rw [e];exact vd_ (t:=false) rfl (λh=>by cases h) (λ_=>vw_ (run_geq ..) rfl (uH_ (p89 _) rfl rfl (mW_ rfl)))
 |true=>refine vd_ (t:=true) rfl (λ_=>vw_ (vr_ ..) rfl (vd_ rfl (λh=>?_) (λh=>?_))) (λh=>by cases h);have h0:i18=0:=(by simpa using h);have e:nw_ i17 i18 true v=[bv (decide (v<=min (i17+1) 32767)),nv (min (i17+1) 32767),bv true]:=(by unfold nw_;rw [if_pos ⟨rfl,h0⟩]);rw [e];exact vw_ (g_ (x:=i17) (y:=1) (by omega) (by omega)) rfl (vw_ (r:=.int .i64 (min (i17+1) 32767)) rfl rfl (vw_ (run_geq ..) rfl (uH_ (p89 _) rfl rfl (mW_ rfl))));have h0:i18≠0:=(by simpa using h);have e:nw_ i17 i18 true v=[bv (decide (v<=i17)),nv i17,bv true]:=(by unfold nw_;rw [if_neg (λq=>h0 q.2)]);rw [e];exact vw_ (run_geq ..) rfl (uH_ (p89 _) rfl rfl (mW_ rfl))
theorem C3_ {mem:List FV} (hm:MemOk mem) (inn:Bool) (v:Int):
  CF Tryz.prog 99 wW_ (cf_ d_ mem++[.bool inn,.int .i64 v]) (RBk (V_ (ci_ mem 20) inn)):=by
 obtain ⟨m0,m1,m2,m3,m4,m5,m6,m7,m8,m9,m10,m11,m12,m13,m14,m15,m16,m17,m18,m19,m20,rfl⟩:=O_ hm.len;have hm':=MemOk.of.1 hm;obtain ⟨⟨k0,k1,k2,k3,k4,k5,k6,k7,k8,k9,k10,k11,k12,k13,k14,k15,k16,k17,k18,k19,k20⟩,t0,t1,t2,t3,t4,t5,t6,t7,t8,t9,t10,t11,t12,t13,t14,t15,t16,t17,t18,t19,t20⟩:=hm';obtain ⟨i19,rfl,h19⟩:=n_ t19 k19 (by decide);obtain ⟨i20,rfl,h20⟩:=n_ t20 k20 (by decide);show CF Tryz.prog 99 wW_ _ (RBk (V_ i20 inn));refine vg_ (c:=Cv_) (n:=300) (t:=BC_) mo ov rfl (λY _=>vD_ _) (by kernel_rfl) λY hf hg=>?_;unfold BC_;refine vw_ (r:=.bool false) rfl rfl (vd_ (t:=false) rfl (λh=>by cases h) (λ_=>?_));refine vw_ (r:=.bool false) rfl rfl (vd_ (t:=false) rfl (λh=>by cases h) (λ_=>?_));refine vw_ (run_neq ..) rfl (uH_ (p89 inn) rfl rfl ?_);cases inn with
 |false=>exact vd_ (t:=false) rfl (λh=>by cases h) (λ_=>uH_ (p89 false) rfl rfl (mW_ rfl))
 |true=>refine vd_ (t:=true) rfl (λ_=>vw_ (vr_ ..) rfl (uH_ (p89 _) rfl rfl ?_)) (λh=>by cases h);have e:V_ i20 true=[bv (!!decide (i20=0)),bv true]:=(by unfold V_;rw [Bool.not_not];rfl);rw [e];exact mW_ rfl
def R61 (m:List FV):Nat->List AV->Prop:=λ_ ws=>ws=[c_ m]
theorem yq_ {m:List FV} {x:List FV} {hv:List AV} {Y:Sy} {L:List (Nat->List AV->Prop)} (h:ab_ Y.v hv=[c_ x]) (e:m=x):VOK Tryz.prog (QF (R61 m)) L Y (.done (.tup (.int .i64 0::hv))):=
 VOK_fin (j:=0) (by rw [h];simp only [okL,okC,C_]) (by rw [e];exact h)
theorem xt_ {ls:List AV} {kd ad:Int} (h1:ls[1]? =some (.int .i64 kd)) (h2:ls[2]? =some (.int .i64 ad)) {B:World} {pr:Nat->Prop} {E:Env} {w:World} {us:List Value} (h:∀(i:Nat) (a:AV),ls[i]? =some a->E.sy (64+i)=some a)
  (hr:Rel B pr E (ft61.ent.heap 64) w) (hc:ConL E (bs_ 64 (cq_ ft61.ent.slots)) us):Rel B pr E heap61 w/\ConL E (wf_ kd ad) us:=by
 refine ⟨hr,?_⟩;have e:bs_ 64 (cq_ ft61.ent.slots)=[.slx 0 3 64,.sym 65,.sym 66,.slx 1 3 67,.sym 68]:=by kernel_rfl
 rw [e]at hc;have e2:wf_ kd ad=fP_ 2 (.int .i64 ad) (fP_ 1 (.int .i64 kd) [.slx 0 3 64,.sym 65,.sym 66,.slx 1 3 67,.sym 68]):=rfl;rw [e2];exact m8_ (a:=.sym 66) (λv hv=>uA_ (h 2 _ h2) hv) 2 _ _ rfl (m8_ (a:=.sym 65) (λv hv=>uA_ (h 1 _ h1) hv) 1 _ _ rfl hc)
theorem w3_ {l:List FV} (h:l.length=1\/l.length=2):∃a b r,l++[FV.z]=a::b::r/\l.headD FV.z=a/\l.tail.headD FV.z=b:=by rcases l with _|⟨a,_|⟨b,_|⟨c,r⟩⟩⟩;simp at h;exact ⟨_,_,_,rfl,rfl,rfl⟩;exact ⟨_,_,_,rfl,rfl,rfl⟩;simp at h
theorem CS_ {mem:List FV} (hm:MemOk mem) {now:Int} (hn: -9223372036854775808<=now/\now<=9223372036854775807) {l:List FV} (hl:l.length=1\/l.length=2) (hv: -9223372036854775808<=(l.tail.headD FV.z).i/\(l.tail.headD FV.z).i<=9223372036854775807):
  CF Tryz.prog 61 ft61 [c_ mem,.int .i64 6,.int .i64 12,c_ l,.int .i64 now] (R61 (z_ now 6 mem (decide ((l.headD FV.z).i≠0)) (l.tail.headD FV.z).i)):=by
 have hc:=CZ_ hm (decide ((l.headD FV.z).i≠0)) hv hn;obtain ⟨x,y,r,e1,e2,e3⟩:=w3_ hl;rw [e3]at hv;rw [e2,e3]at hc⊢;obtain ⟨m0,m1,m2,m3,m4,m5,m6,m7,m8,m9,m10,m11,m12,m13,m14,m15,m16,m17,m18,m19,m20,rfl⟩:=O_ hm.len;have hop:=es_ (l:=[m0,m1,m2,m3,m4,m5,m6,m7,m8,m9,m10,m11,m12,m13,m14,m15,m16,m17,m18,m19,m20]) rfl;refine vf_ (c:=Cn_) (ex:=[]) (args:=wf_ 6 12) (H:=heap61) (n:=300) (t:=Bu_) mo ov rfl (λY=>vD_ _) rfl (λB pr E w us h _ hr hc=>xt_ rfl rfl h hr hc) (by kernel_rfl) λY hf hg=>?_;unfold Bu_;have ha:=W_ l FV.z (by omega);rw [e1]at ha;refine vw_ ha (C_ _) (ve_ hop rfl (oL_ okV _) ?_);refine vw_ rfl rfl (vw_ (r:=.int .i64 x.i) rfl rfl (vw_ (run_neq ..) rfl (vw_ rfl rfl (vw_ (r:=.int .i64 y.i) rfl rfl ?_))));have e4:decide (x.i≠0)= !decide (x.i=0):=by rw [decide_not]
 rw [e4]at hc⊢;refine uv_ hc ?_ ⟨?_,trivial⟩;exact (show okL (cf_ d_ [m0,m1,m2,m3,m4,m5,m6,m7,m8,m9,m10,m11,m12,m13,m14,m15,m16,m17,m18,m19,m20]++[.bool (!decide (x.i=0)),.int .i64 y.i,.int .i64 now])=true from oL_.okL_join (oL_ okV _) rfl);intro ws hws;obtain ⟨a,b,c,d,e,_⟩:=xz_ m14.i m15.i (!decide (x.i=0)) (v:=y.i) (now:=now) hv.2 hn (((MemOk.of.1 hm).2.2.2.2.2.2.2.2.2.2.2.2.2.2.2.2.1).1.i64);have hws:ws=cf_ d_ (q0_ m14.i m15.i (!decide (x.i=0)) y.i now):=hws;rw [e]at hws;subst hws;exact yq_ (x:=[m0,m1,m2,m3,m4,m5,m6,m7,m8,m9,m10,m11,a,b,c,d,m16,m17,m18,m19,m20]) rfl (by show wm_ _ 12 (q0_ m14.i m15.i (!decide (x.i=0)) y.i now)=_;rw [e];rfl)
theorem CT_ {mem:List FV} (hm:MemOk mem) (now:Int) {l:List FV} (hl:l.length=1\/l.length=2):
  CF Tryz.prog 61 ft61 [c_ mem,.int .i64 9,.int .i64 16,c_ l,.int .i64 now] (R61 (z_ now 9 mem (decide ((l.headD FV.z).i≠0)) (l.tail.headD FV.z).i)):=by
 have hc:=C0_ hm (decide ((l.headD FV.z).i≠0)) (l.tail.headD FV.z).i now;have hd:=C2_ hm (decide ((l.headD FV.z).i≠0)) (l.tail.headD FV.z).i;obtain ⟨x,y,r,e1,e2,e3⟩:=w3_ hl;rw [e2,e3]at hc hd⊢;obtain ⟨m0,m1,m2,m3,m4,m5,m6,m7,m8,m9,m10,m11,m12,m13,m14,m15,m16,m17,m18,m19,m20,rfl⟩:=O_ hm.len;have hop:=es_ (l:=[m0,m1,m2,m3,m4,m5,m6,m7,m8,m9,m10,m11,m12,m13,m14,m15,m16,m17,m18,m19,m20]) rfl;refine vf_ (c:=Co_) (ex:=[]) (args:=wf_ 9 16) (H:=heap61) (n:=300) (t:=Bv_) mo ov rfl (λY=>vD_ _) rfl (λB pr E w us h _ hr hc=>xt_ rfl rfl h hr hc) (by kernel_rfl) λY hf hg=>?_;unfold Bv_;have ha:=W_ l FV.z (by omega);rw [e1]at ha;refine vw_ ha (C_ _) (ve_ hop rfl (oL_ okV _) ?_);refine vw_ rfl rfl (vw_ (r:=.int .i64 x.i) rfl rfl (vw_ (run_neq ..) rfl (vw_ rfl rfl (vw_ (r:=.int .i64 y.i) rfl rfl ?_))));have e4:decide (x.i≠0)= !decide (x.i=0):=by rw [decide_not]
 rw [e4]at hc hd⊢;refine uv_ hc ?_ ⟨?_,trivial⟩;exact (show okL (cf_ d_ [m0,m1,m2,m3,m4,m5,m6,m7,m8,m9,m10,m11,m12,m13,m14,m15,m16,m17,m18,m19,m20]++[.bool (!decide (x.i=0)),.int .i64 y.i,.int .i64 now])=true from oL_.okL_join (oL_ okV _) rfl);intro ws hws;have hws:ws=cf_ d_ [m16,m17,m18]:=hws;subst hws;refine vw_ rfl rfl (vw_ (r:=.int .i64 x.i) rfl rfl (vw_ (run_neq ..) rfl (vw_ rfl rfl (vw_ (r:=.int .i64 y.i) rfl rfl ?_))));refine uv_ hd ?_ ⟨?_,trivial⟩;exact (show okL (cf_ d_ [m0,m1,m2,m3,m4,m5,m6,m7,m8,m9,m10,m11,m12,m13,m14,m15,m16,m17,m18,m19,m20]++[.bool (!decide (x.i=0)),.int .i64 y.i])=true from oL_.okL_join (oL_ okV _) rfl);intro ws hws;obtain ⟨a,b,c,e,_⟩:=xl_ m18.i (!decide (x.i=0)) y.i (Az_ hm);have hws:ws=cf_ d_ (nw_ m17.i m18.i (!decide (x.i=0)) y.i):=hws;rw [e]at hws;subst hws;exact yq_ (x:=[m0,m1,m2,m3,m4,m5,m6,m7,m8,m9,m10,m11,m12,m13,m14,m15,a,b,c,m19,m20]) rfl (by show wm_ _ 16 (nw_ m17.i m18.i (!decide (x.i=0)) y.i)=_;rw [e];rfl)
theorem CU_ {mem:List FV} (hm:MemOk mem) (now:Int) {l:List FV} (hl:l.length=1\/l.length=2):
  CF Tryz.prog 61 ft61 [c_ mem,.int .i64 11,.int .i64 19,c_ l,.int .i64 now] (R61 (z_ now 11 mem (decide ((l.headD FV.z).i≠0)) (l.tail.headD FV.z).i)):=by
 have hc:=C1_ hm (decide ((l.headD FV.z).i≠0)) (l.tail.headD FV.z).i now;have hd:=C3_ hm (decide ((l.headD FV.z).i≠0)) (l.tail.headD FV.z).i;obtain ⟨x,y,r,e1,e2,e3⟩:=w3_ hl;rw [e2,e3]at hc hd⊢;obtain ⟨m0,m1,m2,m3,m4,m5,m6,m7,m8,m9,m10,m11,m12,m13,m14,m15,m16,m17,m18,m19,m20,rfl⟩:=O_ hm.len;have hop:=es_ (l:=[m0,m1,m2,m3,m4,m5,m6,m7,m8,m9,m10,m11,m12,m13,m14,m15,m16,m17,m18,m19,m20]) rfl;refine vf_ (c:=Cp_) (ex:=[]) (args:=wf_ 11 19) (H:=heap61) (n:=300) (t:=Bw_) mo ov rfl (λY=>vD_ _) rfl (λB pr E w us h _ hr hc=>xt_ rfl rfl h hr hc) (by kernel_rfl) λY hf hg=>?_;unfold Bw_;have ha:=W_ l FV.z (by omega);rw [e1]at ha;refine vw_ ha (C_ _) (ve_ hop rfl (oL_ okV _) ?_);refine vw_ rfl rfl (vw_ (r:=.int .i64 x.i) rfl rfl (vw_ (run_neq ..) rfl (vw_ rfl rfl (vw_ (r:=.int .i64 y.i) rfl rfl ?_))));have e4:decide (x.i≠0)= !decide (x.i=0):=by rw [decide_not]
 rw [e4]at hc hd⊢;refine uv_ hc ?_ ⟨?_,trivial⟩;exact (show okL (cf_ d_ [m0,m1,m2,m3,m4,m5,m6,m7,m8,m9,m10,m11,m12,m13,m14,m15,m16,m17,m18,m19,m20]++[.bool (!decide (x.i=0)),.int .i64 y.i,.int .i64 now])=true from oL_.okL_join (oL_ okV _) rfl);intro ws hws;have hws:ws=cf_ d_ [m19,m20]:=hws;subst hws;refine vw_ rfl rfl (vw_ (r:=.int .i64 x.i) rfl rfl (vw_ (run_neq ..) rfl (vw_ rfl rfl (vw_ (r:=.int .i64 y.i) rfl rfl ?_))));refine uv_ hd ?_ ⟨?_,trivial⟩;exact (show okL (cf_ d_ [m0,m1,m2,m3,m4,m5,m6,m7,m8,m9,m10,m11,m12,m13,m14,m15,m16,m17,m18,m19,m20]++[.bool (!decide (x.i=0)),.int .i64 y.i])=true from oL_.okL_join (oL_ okV _) rfl);intro ws hws;obtain ⟨a,b,e,_⟩:=(⟨_,_,rfl,trivial⟩:∃a b,V_ m20.i (!decide (x.i=0))=[a,b]/\True);have hws:ws=cf_ d_ (V_ m20.i (!decide (x.i=0))):=hws;rw [e]at hws;subst hws;exact yq_ (x:=[m0,m1,m2,m3,m4,m5,m6,m7,m8,m9,m10,m11,m12,m13,m14,m15,m16,m17,m18,a,b]) rfl (by show wm_ _ 19 (V_ m20.i (!decide (x.i=0)))=_;rw [e];rfl)
theorem p61 {mem:List FV} (hm:MemOk mem) {now:Int} (hn: -9223372036854775808<=now/\now<=9223372036854775807) {kd ad:Int} {ks:List Int} (hb:Blk kd ad ks) {l:List FV} (hk:l.length=ks.length) (hv: -9223372036854775808<=(l.tail.headD FV.z).i/\(l.tail.headD FV.z).i<=9223372036854775807):
  CF Tryz.prog 61 ft61 [c_ mem,.int .i64 kd,.int .i64 ad,c_ l,.int .i64 now] (R61 (z_ now kd mem (decide ((l.headD FV.z).i≠0)) (l.tail.headD FV.z).i)):=by
 have hl:l.length=1\/l.length=2:=by rcases hb with ⟨_,_,rfl⟩|⟨_,_,rfl⟩|⟨_,_,rfl⟩<;>simp at hk<;>omega
 rcases hb with ⟨rfl,rfl,_⟩|⟨rfl,rfl,_⟩|⟨rfl,rfl,_⟩;exact CS_ hm hn hl hv;exact CT_ hm now hl;exact CU_ hm now hl
def c76:VC:=⟨⟨[],[]⟩,[],[(1,[⟨[(3,.ptr 2 0),(0,.ptr 0 0)],[(2,[68,69,70,71,72,73,74,75,76,77,78,79,80,81,82,83,84,85,86,87,88,89,90,91,92,93,94]),(0,[.slx 1 3 0,65,.slx 1 0 0,67])],3,2,[⟨1,3,0,0,(some 0)⟩],[],[]⟩]),(3,[⟨[(14,.slx 3 3 0),(15,.slx 1 0 0),(0,.ptr 0 0),(3,.ptr 2 0)],[(0,[.ptx 1 64 3 0,65,66,67]),(2,[68,69,70,71,72,73,74,75,76,77,78,79,80,81,82,83,84,85,86,87,88,89,90,91,92,93,94])],4,2,[⟨3,3,0,14,none⟩],[],[(1,64)]⟩])],2,true,[(23,wU_),(61,ft61),(44,xq_)]⟩
def t76:VT:=Iq 68 1 95 (Cf 23 wU_ [64,79,80,81,82,83,84,85,86,87,88] 96 4<|It Q5 [110,J 0] 111 (.chk (.nn 64)<|Dn [64,66,110])<|Iq 69 3 112 (Li Qa [78,J 0] 113<|.lt Qd [113] 114 (some 10)<|Cf 23 wU_ [64,114,115,116,117,118,119,120,121,122,123] 124 4<|It Q5 [138,J 0] 139 (.chk (.nn 64)<|Dn [64,66,138])<|It Z2 [136,J 0] 140 (.chk (.nn 64)<|Dn [64,66,J 6])<|It Qo [136,74] 141 (.chk (.nn 64)<|Dn [64,66,J 6])<|Li Qv [73,136] 142<|Li Q1 [64,142] 143<|Li Z3 [64,143,.agg [107,108,109]] 144<|.chk (.same 64 144)<|.chk (.nn 144)<|Dn [144,66,J 0])<|Li Q1 [64,73] 113<|Li Z3 [64,113,.agg [107,108,109]] 114<|.chk (.same 64 114)<|.chk (.nn 114)<|Dn [114,66,J 0])<|Iq 68 2 96 (Cf 23 wU_ [64,79,80,81,82,83,84,85,86,87,88] 97 4<|It Q5 [111,J 0] 112 (.chk (.nn 64)<|Dn [64,66,111])<|It Q8 [109,J 0] 113 (Cf 44 xq_ [64,65,66,67,89] 114 3<|.chk (.nn 119)<|Dn [119,120,121])<|Cf 44 xq_ [64,65,66,67,90] 114 3<|.chk (.nn 119)<|Dn [119,120,121])<|Iq 68 3 97 (.chk (.nn 64)<|.loop 98 0 [64,66] (.cons 2 (Li Q2 [99,J 1] 100<|It (.bin .gtr 3 false false) [100,67] 101 (.chk (.nn 98)<|Dn [98,100,J 8])<|Cf 23 wU_ [98,79,80,81,82,83,84,85,86,87,88] 102 4<|It Q5 [116,J 0] 117 (.chk (.nn 98)<|Dn [98,100,116])<|It Qt [114,J 0] 118 (.chk (.nn 98)<|Dn [98,100,116])<|Cf 44 xq_ [98,65,100,67,89] 119 3<|It Q5 [126,J 0] 127 (.chk (.nn 124)<|Dn [124,125,126])<|.chk (.nn 124)<|.again 0 0 [124,125]) .nil))<|.loop 98 0 [.nsl,J 0] (.cons 2 (Li Qe [94] 100<|It Q4 [99,100] 101 (Li Qa [94,99] 102<|.lt Qd [102] 103 (some 10)<|Cf 23 wU_ [64,103,104,105,106,107,108,109,110,111,112] 113 4<|It Q5 [127,J 0] 128 (.chk (.nn 64)<|Dn [64,66,127])<|Li Qg [98,.agg [124,125,126]] 129<|Li Q2 [99,J 1] 130<|.again 0 0 [129,130])<|Cf 61 ft61 [64,92,93,98,65] 102 1<|.chk (.same 64 107)<|.chk (.nn 107)<|Dn [107,66,J 0]) .nil)
def c44:VC:=⟨⟨[],[]⟩,[],[(0,[⟨[(5,.slx 0 0 0),(1,68),(0,.ptr 0 0)],[(0,[.slx 1 3 1,65,.slx 2 0 0,67])],2,3,[⟨1,3,1,0,(some 0)⟩],[],[]⟩])],2,true,[(76,w9_)]⟩
def t44:VT:=.chk (.nn 64)<|.loop 69 0 [J 0,64,66] (.cons 3 (Li Za [68] 72<|It Q4 [69,72] 73 (Li Qx [68,69] 74<|.lt Zq [74] 75 (some 27)<|Cf 76 w9_ [70,65,71,67,75,76,77,78,79,80,81,82,83,84,85,86,87,88,89,90,91,92,93,94,95,96,97,98,99,100,101] 102 3<|It Q5 [135,J 0] 136 (.chk (.nn 133)<|Dn [133,134,135])<|Li Q2 [69,J 1] 137<|.chk (.nn 133)<|.again 0 0 [137,133,134])<|.chk (.nn 70)<|Dn [70,71,J 0]) .nil)
def c17:VC:=⟨⟨[],[]⟩,[],[],0,true,[(44,xq_)]⟩
def t17:VT:=Li Qg [.vsl 0 3 [],66] 69<|Cf 44 xq_ [69,67,J 0,68,65] 70 3<|Dn [75,77]
theorem e76:u8_ Tryz.prog 300 c76 76 w9_=t76:=by kernel_rfl
def MD (mem:List FV) (now lp mx:Int):List AV:=[c_ mem,.int .i64 now,.int .i64 lp,.int .i64 mx]
theorem AK_ (mem:List FV) (now lp mx:Int) {l:List AV} (h:okL l=true):okL (MD mem now lp mx++l)=true:=oL_.okL_join (by simp only [MD,okL,okC,C_]) h
theorem xL_ (mem:List FV) (now lp mx:Int) (l:List GS):okL (MD mem now lp mx++[A_ l])=true:=AK_ _ _ _ _ (by simp only [okL,okB,Bool.and_self])
theorem AL_ (mem:List FV) (now lp mx:Int) (s:GS):okL (MD mem now lp mx++v_ s)=true:=AK_ _ _ _ _ (okS s)
def RD (mx:Int) (r:RSt):Nat->List AV->Prop:=λ_ ws=>ws=[c_ r.mem,.int .i64 (mx-r.left),.int .i64 r.e]
theorem tW_ {mx:Int} {r:RSt} {m:List FV} {l e:Int} {hv:List AV} {Y:Sy} {L:List (Nat->List AV->Prop)} (h:ab_ Y.v hv=[c_ m,.int .i64 l,.int .i64 e]) {lf:Int} (hr:r=⟨m,lf,e⟩) (hl:mx-lf=l):VOK Tryz.prog (QF (RD mx r)) L Y (.done (.tup (.int .i64 0::hv))):=
 VOK_fin (j:=0) (by rw [h];exact ok3 m l e) (by subst hr;subst hl;exact h)
def P44 (now mx:Int) (d:Nat):Prop:=∀(l:List GS),l.length<=5->(∀s∈l,TS d s)->∀(mem:List FV) (lp:Int),MemOk mem->0<=lp->lp<=mx->CF Tryz.prog 44 xq_ (MD mem now lp mx++[A_ l]) (RD mx (J_ (j_ now d) l mem (mx-lp)))
theorem wq_ {r:Except Int FV} {v:FV} {j:Nat} {ws:List AV} (h:REv r j ws) (hr:r=.ok v):ws=d_ v++[.int .i64 0]:=by subst hr;exact h
theorem wp_ {r:Except Int FV} {e:Int} {j:Nat} {ws:List AV} (h:REv r j ws) (hr:r=.error e):ws=d_ FV.z++[.int .i64 e]:=by subst hr;exact h
theorem yT_ {mem:List FV} (hm:MemOk mem) {m:Nat} (hml:m<mem.length) {v:FV} (tv:TV v) (hk:sZ_.getD m 0=v.k):MemOk (mem.set m v):=hm.set hml tv (by rw [hm.kd hml,hk])
theorem CX_ {now mx:Int} {mem:List FV} (hm:MemOk mem) {lp:Int} {to e:GX} {thn els:List GS} {nm:List UInt8} {kd ad:Int} {args:List GX} (ht:TX 5 to) (hw:to.op=2/\(to.ad,to.kd)∈wrL\/to.op=3) (he:TX 6 e) (hk:e.kd=to.kd):
  CF Tryz.prog 76 w9_ (MD mem now lp mx++v_ (.mk 1 to e thn els nm kd ad args)) (RD mx (vu_ to e mem (mx-lp))):=by
 have hlen:=hm.len;have h23:=yd_ hm 6 e he;have hkept:=λv hv=>R_ hm 6 e he v hv;have hA:=λv a=>yR_ (mem:=mem) (left:=mx-lp) (to:=to) (e:=e) (v:=v) (a:=a);have hB:=λv er=>xR_ (mem:=mem) (left:=mx-lp) (to:=to) (e:=e) (v:=v) (er:=er);have hC:=λv=>yQ_ (mem:=mem) (left:=mx-lp) (to:=to) (e:=e) (v:=v);have hSe:=λer=>yS_ (mem:=mem) (left:=mx-lp) (to:=to) (e:=e) (er:=er);have hEe:=λer=>h_ (mem:=mem) e er;have hpo:=λa=>vI_ (mem:=mem) ht (a:=a);obtain ⟨z1,z2,z3,z4,z5,z6,z7,z8,z9,z10⟩:=to;have hq:=ht.2.2.2.2.1.2.2.1;have hsub:=ht.2.2.2.2.2;have hla:lp=mx-(mx-lp):=by omega
 obtain ⟨e1,e2,e3,e4,e5,e6,e7,e8,e9,e10⟩:=e;refine vg_ (c:=c76) (n:=300) (t:=t76) mo ov rfl (λY _=>vD_ _) e76 λY hf hg=>?_;unfold t76;refine vw_ (r:=.bool true) rfl rfl (vd_ (t:=true) rfl (λ_=>?_) (λh=>by cases h));refine uv_ h23 (wG_ mem (.mk e1 e2 e3 e4 e5 e6 e7 e8 e9 e10)) ⟨?_,trivial⟩;intro ws hws;cases hv:f_ mem (.mk e1 e2 e3 e4 e5 e6 e7 e8 e9 e10)with
 |error er=>
  obtain rfl:=wp_ hws hv;have:=hEe er hv
  (refine a_ rfl rfl ?_ ?_<;>intro h<;>simp only [nc]at h<;>try omega)
  exact vc_ (nnV hm) (tW_ rfl (hSe er hv) (by omega))
 |ok v=>
  obtain rfl:=wq_ hws hv;obtain ⟨tv,vk⟩:=hkept v hv
  (refine a_ rfl rfl ?_ ?_<;>intro h<;>simp only [nc]at h<;>try omega)
  (refine a_ rfl rfl ?_ ?_<;>intro h<;>simp only [nc]at h<;>try omega)
  .have h3:=h;obtain ⟨q1,q2,q3,k,q4,q5⟩:=hq h3;obtain ⟨y,rfl,yk⟩:=vE_ q4;have hy:=hsub y (List.mem_singleton.2 rfl);have hz:=yd_ hm 4 y hy;have hld:=q_ [y] (i:=0) (by simp);have hyE:=λer=>h_ (mem:=mem) y er;have hpl:∀r,f_ mem y=r->N_ mem (.mk z1 z2 z3 z4 z5 z6 z7 z8 z9 [y])=(match r with| .error e=>.error e| .ok a=>if a.i<0\/z6<=a.i then .error 6 else .ok (z5+a.i)):=λr hr=>by
    cases r with
    |error e=>simp only [N_,rK_ hr]
    |ok a=>simp only [N_,b9_ hr,List.headD_cons];rfl
   refine vw_ (m_ [y] (i:=0) (by simp)) (oL_ okX _) ?_;rcases hzz:y with ⟨zo,zk,znm,zfd,zad,zn,zvk,zvi,zvf,za⟩;rw [hzz]at hld hz hyE hpl;refine ve_ hld rfl (okX (.mk zo zk znm zfd zad zn zvk zvi zvf za)) (uv_ hz (wG_ mem (.mk zo zk znm zfd zad zn zvk zvi zvf za)) ⟨?_,trivial⟩);intro ws hws;cases ha:f_ mem (.mk zo zk znm zfd zad zn zvk zvi zvf za)with
   |error er=>
    obtain rfl:=wp_ hws ha;have:=hyE er ha;have hp:=hpl _ ha;rw [hzz]at hB
    (refine a_ rfl rfl ?_ ?_<;>intro h<;>simp only [nc]at h<;>try omega)
    exact vc_ (nnV hm) (tW_ rfl (hB v er h3 hv hp) (by omega))
   |ok a=>
    obtain rfl:=wq_ hws ha;have hp:=hpl _ ha;simp only at hp;rw [hzz]at hA hB hpo
    (refine a_ rfl rfl ?_ ?_<;>intro h<;>simp only [nc]at h<;>try omega)
    (refine a_ rfl rfl ?_ ?_<;>intro h<;>simp only [nc]at h<;>try omega)
    rw [if_pos (.inl h)]at hp;exact vc_ (nnV hm) (tW_ rfl (hB v 6 h3 hv hp) (by omega))
    (refine a_ rfl rfl ?_ ?_<;>intro h<;>simp only [nc]at h<;>try omega)
    rw [if_pos (.inr h)]at hp;exact vc_ (nnV hm) (tW_ rfl (hB v 6 h3 hv hp) (by omega));rw [if_neg (by omega)]at hp;obtain ⟨b1,b2,b3⟩:=hpo _ h3 hp;have hS:=hA v _ h3 hv hp;obtain ⟨m,em⟩:∃m:Nat,z5+a.i=(m:Int):=⟨(z5+a.i).toNat,by omega⟩;have hml:m<mem.length:=(by omega);rw [em,Int.toNat_natCast]at hS;refine vw_ (g_ (by omega) (by omega)) rfl ?_;rw [em];have hm2:=yT_ hm hml tv (by have b3:z2=2:=b3;have hk:e2=z2:=hk;have vk:v.k=e2:=vk;rw [vk,hk,b3];rcases (by omega:m=8\/m=9\/m=10\/m=11)with rfl|rfl|rfl|rfl<;>rfl);exact vw_ (D_ mem hml) rfl (vw_ (ux_ mem hml v) (C_ _) (vc_ (uy_ mem m v) (vc_ (nnV hm2) (tW_ rfl hS (by omega)))))
  have h3:=h;have hw':z1=2/\(z5,z2)∈wrL:=(by rcases hw with hw|hw;exact hw;exact absurd hw h3);obtain ⟨q1,q2,q3⟩:=wr_k _ hw'.2;simp only at q1 q2 q3;obtain ⟨m,rfl⟩:∃m:Nat,z5=(m:Int):=⟨z5.toNat,by omega⟩;have hml:m<mem.length:=(by omega);have hS:vu_ _ _ mem (mx-lp)=⟨mem.set m v,mx-lp,0⟩:=hC v h3 hv;have hm2:=yT_ hm hml tv (by have hk:e2=z2:=hk;have vk:v.k=e2:=vk;rw [vk,hk];exact q3);exact vw_ (D_ mem hml) rfl (vw_ (ux_ mem hml v) (C_ _) (vc_ (uy_ mem m v) (vc_ (nnV hm2) (tW_ rfl hS (by omega)))))
theorem CW_ {now mx:Int} (hx:mx<=100000) {d:Nat} (hn: -9223372036854775808<=now/\now<=9223372036854775807) (ih:P44 now mx d) {mem:List FV} (hm:MemOk mem) {lp:Int} (hl:0<=lp) (hl2:lp<=mx) {to e:GX} {thn els:List GS} {nm:List UInt8} {kd ad:Int} {args:List GX} (he:TX 5 e) (h4:thn.length<=5) (h5:els.length<=5) (h6:∀s∈thn,TS d s) (h7:∀s∈els,TS d s):
  CF Tryz.prog 76 w9_ (MD mem now lp mx++v_ (.mk 2 to e thn els nm kd ad args)) (RD mx (j_ now (d+1) (.mk 2 to e thn els nm kd ad args) mem (mx-lp))):=by
 have h23:=yd_ hm 5 e he;have hEe:=λer=>h_ (mem:=mem) e er;have hR:∀r,f_ mem e=r->j_ now (d+1) (.mk 2 to e thn els nm kd ad args) mem (mx-lp)=(match r with| .error er=>⟨mem,mx-lp,er⟩| .ok v=>J_ (j_ now d) (if v.i≠0 then thn else els) mem (mx-lp)):=λr hr=>by rw [j_,if_neg (by decide),if_pos rfl,hr]<;>rfl
 have hk:∀l,(∀s∈l,TS d s)->Kept mem (mx-lp) (J_ (j_ now d) l mem (mx-lp)):=λl ht=>I_ (f:=j_ now d) l mem (mx-lp) (λs hs m l hm hl=>G_ hn d s (ht s hs) m l hm hl) hm (by omega);obtain ⟨z1,z2,z3,z4,z5,z6,z7,z8,z9,z10⟩:=to;obtain ⟨e1,e2,e3,e4,e5,e6,e7,e8,e9,e10⟩:=e;refine vg_ (c:=c76) (n:=300) (t:=t76) mo ov rfl (λY _=>vD_ _) e76 λY hf hg=>?_;unfold t76;refine vw_ (r:=.bool false) rfl rfl (vd_ (t:=false) rfl (λh=>by cases h) (λ_=>?_));refine vw_ (r:=.bool true) rfl rfl (vd_ (t:=true) rfl (λ_=>?_) (λh=>by cases h));refine uv_ h23 (wG_ mem (.mk e1 e2 e3 e4 e5 e6 e7 e8 e9 e10)) ⟨?_,trivial⟩;intro ws hws;cases hv:f_ mem (.mk e1 e2 e3 e4 e5 e6 e7 e8 e9 e10)with
 |error er=>
  obtain rfl:=wp_ hws hv;have:=hEe er hv
  (refine a_ rfl rfl ?_ ?_<;>intro h<;>simp only [nc]at h<;>try omega)
  exact vc_ (nnV hm) (tW_ rfl (hR _ hv) (by omega))
 |ok v=>
  obtain rfl:=wq_ hws hv;have hR:=hR _ hv;simp only at hR
  (refine a_ rfl rfl ?_ ?_<;>intro h<;>simp only [nc]at h<;>try omega)
  (refine a_ rfl rfl ?_ ?_<;>intro h<;>simp only [nc]at h<;>try omega)
  rw [if_pos h]at hR;have hk:=hk thn h6;refine uv_ (ih thn h4 h6 mem lp hm hl hl2) (xL_ mem now lp mx thn) ⟨?_,trivial⟩;rintro ws rfl;exact vc_ (nnV hk.1) (tW_ rfl hR rfl);rw [if_neg (by simpa using h)]at hR;have hk:=hk els h7;refine uv_ (ih els h5 h7 mem lp hm hl hl2) (xL_ mem now lp mx els) ⟨?_,trivial⟩;rintro ws rfl;exact vc_ (nnV hk.1) (tW_ rfl hR rfl)
theorem CY_ {now mx:Int} (hx:mx<=100000) {d:Nat} (hn: -9223372036854775808<=now/\now<=9223372036854775807) (ih:P44 now mx d) {mem:List FV} (hm:MemOk mem) {lp:Int} (hl:0<=lp) (hl2:lp<=mx) {to e:GX} {thn els:List GS} {nm:List UInt8} {kd ad:Int} {args:List GX} (he:TX 5 e) (h4:thn.length<=5) (h6:∀s∈thn,TS d s):
  CF Tryz.prog 76 w9_ (MD mem now lp mx++v_ (.mk 3 to e thn els nm kd ad args)) (RD mx (j_ now (d+1) (.mk 3 to e thn els nm kd ad args) mem (mx-lp))):=by
 have h23:=λm (hm:MemOk m)=>yd_ hm 5 e he;have hEe:=λm er=>h_ (mem:=m) e er;have hk:=λm lf (hm:MemOk m) (h:0<=lf)=>I_ (f:=j_ now d) thn m lf (λs hs m l hm hl=>G_ hn d s (h6 s hs) m l hm hl) hm h;obtain ⟨z1,z2,z3,z4,z5,z6,z7,z8,z9,z10⟩:=to;obtain ⟨e1,e2,e3,e4,e5,e6,e7,e8,e9,e10⟩:=e;rw [j_,if_neg (by decide),if_neg (by decide),if_pos rfl];refine vg_ (c:=c76) (n:=300) (t:=t76) mo ov rfl (λY _=>vD_ _) e76 λY hf hg=>?_;unfold t76;refine vw_ (r:=.bool false) rfl rfl (vd_ (t:=false) rfl (λh=>by cases h) (λ_=>?_));refine vw_ (r:=.bool false) rfl rfl (vd_ (t:=false) rfl (λh=>by cases h) (λ_=>?_));refine vw_ (r:=.bool true) rfl rfl (vd_ (t:=true) rfl (λ_=>?_) (λh=>by cases h));refine vc_ (nnV hm) ?_;have h44:=λm l=>ih thn h4 h6 m l;generalize hbody:J_ (j_ now d) thn=body at*;generalize hres:v9_ body (λm=>f_ m (.mk e1 e2 e3 e4 e5 e6 e7 e8 e9 e10)) ((mx-lp).toNat+1) mem (mx-lp)=res at*;refine uJ_ (ι:=List FV×Int) (λs=>[c_ s.1,.int .i64 s.2]) (λs=>MemOk s.1/\0<=s.2/\s.2<=mx/\∃f,(mx-s.2).toNat+1<=f/\v9_ body (λm=>f_ m (.mk e1 e2 e3 e4 e5 e6 e7 e8 e9 e10)) f s.1 (mx-s.2)=res) (λs=>(mx-s.2).toNat) (mem,lp) ⟨hm,hl,hl2,_,Nat.le_refl _,hres⟩ rfl (λs _=>ok2 _ _) (λs s' _ _ h=>by simp at h;rw [h.2]) (λs hs=>?_);obtain ⟨m,l⟩:=s;obtain ⟨hm1,hl1,hl3,f,hf1,hr⟩:=hs;simp only at hm1 hl1 hl3 hf1 hr⊢;obtain ⟨n,rfl⟩:∃n,f=n+1:=⟨f-1,by omega⟩;rw [yN_]at hr;refine vw_ (g_ (by omega) (by omega)) rfl ?_
 (refine a_ rfl rfl ?_ ?_<;>intro h<;>simp only [nc]at h<;>try omega)
 rw [if_pos (by omega)]at hr;exact vc_ (nnV hm1) (tW_ rfl hr.symm (by omega));rw [if_neg (by omega)]at hr;refine uv_ (h23 m hm1) (wG_ m (.mk e1 e2 e3 e4 e5 e6 e7 e8 e9 e10)) ⟨?_,trivial⟩;intro ws hws;cases hv:f_ m (.mk e1 e2 e3 e4 e5 e6 e7 e8 e9 e10)with
 |error er=>
  obtain rfl:=wp_ hws hv;have:=hEe m er hv;rw [hv]at hr
  (refine a_ rfl rfl ?_ ?_<;>intro h<;>simp only [nc]at h<;>try omega)
  exact vc_ (nnV hm1) (tW_ rfl hr.symm (by omega))
 |ok v=>
  obtain rfl:=wq_ hws hv;rw [hv]at hr;simp only at hr
  (refine a_ rfl rfl ?_ ?_<;>intro h<;>simp only [nc]at h<;>try omega)
  (refine a_ rfl rfl ?_ ?_<;>intro h<;>simp only [nc]at h<;>try omega)
  rw [if_pos h]at hr;exact vc_ (nnV hm1) (tW_ rfl hr.symm (by omega));rw [if_neg h]at hr;have hkk:=hk m (mx-l-1) hm1 (by omega);have h44:=h44 m (l+1) hm1 (by omega) (by omega);rw [show mx-(l+1)=mx-l-1 by omega]at h44;generalize body m (mx-l-1)=r at*;refine uv_ h44 (xL_ m now (l+1) mx thn) ⟨?_,trivial⟩;rintro ws rfl
  (refine a_ rfl rfl ?_ ?_<;>intro h<;>simp only [nc]at h<;>try omega)
  rw [if_neg h]at hr;exact vc_ (nnV hkk.1) (tW_ rfl hr.symm rfl);rw [if_pos h]at hr;have:=hkk.2.2.1 h;exact vc_ (nnV hkk.1) (uu_ rfl ⟨(r.mem,mx-r.left),⟨hkk.1,by simp only;omega,by simp only;omega,n,by simp only;omega,by simp only;rw [show mx-(mx-r.left)=r.left by omega];exact hr⟩,rfl,by simp only;omega⟩)
theorem CV_ {now mx:Int} (hn: -9223372036854775808<=now/\now<=9223372036854775807) {mem:List FV} (hm:MemOk mem) {lp:Int} {to e:GX} {thn els:List GS} {nm:List UInt8} {kd ad:Int} {args:List GX} (hb:Blk kd ad (args.map GX.kd)) (ha:∀a∈args,TX 5 a):
  CF Tryz.prog 76 w9_ (MD mem now lp mx++v_ (.mk 4 to e thn els nm kd ad args)) (RD mx (K_ now kd args mem (mx-lp))):=by
 have hal:args.length<=2:=by rcases hb with ⟨_,_,h⟩|⟨_,_,h⟩|⟨_,_,h⟩<;>(have:=congrArg List.length h;simp at this;omega)
 have ih:=λ(z:GX) (hz:z∈args)=>yd_ hm 5 z (ha z hz);have hR:∀r,i_ mem args=r->K_ now kd args mem (mx-lp)=(match r with| .error er=>⟨mem,mx-lp,er⟩| .ok l=>⟨z_ now kd mem (decide ((l.headD FV.z).i≠0)) (l.tail.headD FV.z).i,mx-lp,0⟩):=λr hr=>by unfold K_;rw [hr]<;>rfl
 obtain ⟨z1,z2,z3,z4,z5,z6,z7,z8,z9,z10⟩:=to;obtain ⟨e1,e2,e3,e4,e5,e6,e7,e8,e9,e10⟩:=e;refine vg_ (c:=c76) (n:=300) (t:=t76) mo ov rfl (λY _=>vD_ _) e76 λY hf hg=>?_;unfold t76;refine vw_ (r:=.bool false) rfl rfl (vd_ (t:=false) rfl (λh=>by cases h) (λ_=>?_));refine vw_ (r:=.bool false) rfl rfl (vd_ (t:=false) rfl (λh=>by cases h) (λ_=>?_));refine vw_ (r:=.bool false) rfl rfl (vd_ (t:=false) rfl (λh=>by cases h) (λ_=>?_));refine uJ_ (ι:=List FV×Nat) (λs=>[c_ s.1,.int .i64 (s.2:Int)]) (λs=>s.1.length=s.2/\s.2<=args.length/\v7_ mem args s.1 s.2) (λs=>args.length-s.2) ([],0) ⟨rfl,Nat.zero_le _,w0_ _ _⟩ rfl (λs _=>by simp only [okL,okC,C_]) (λs s' _ _ h=>by simp at h;omega) (λs hs=>?_);obtain ⟨acc,i⟩:=s;obtain ⟨h1,h2,h3⟩:=hs;simp only at h1 h2 h3⊢;refine vw_ (r_ args) rfl ?_
 (refine a_ rfl rfl ?_ ?_<;>intro h<;>simp only [nc]at h<;>try omega)
 .have hi:i<args.length:=(by omega);have hld:=q_ args hi;have hz:=ih args[i] (List.getElem_mem hi);have hrx:=λv=>wd_ (v:=v) h3 hi;have hre:=λe=>wc_ (e:=e) h3 hi;rcases hzz:args[i]with ⟨zo,zk,znm,zfd,zad,zn,zvk,zvi,zvf,za⟩;rw [hzz]at hld hz hrx hre;refine vw_ (m_ args hi) (oL_ okX _) (ve_ hld rfl (okX (.mk zo zk znm zfd zad zn zvk zvi zvf za)) ?_);refine uv_ hz (wG_ mem (.mk zo zk znm zfd zad zn zvk zvi zvf za)) ⟨?_,trivial⟩;intro ws hws;cases hr:f_ mem (.mk zo zk znm zfd zad zn zvk zvi zvf za)with
  |error e=>
   have e0:=h_ _ _ hr;obtain rfl:=wp_ hws hr
   (refine a_ rfl rfl ?_ ?_<;>intro h<;>simp only [nc]at h<;>try omega)
   exact vc_ (nnV hm) (tW_ rfl (hR _ (hre e hr)) (by omega))
  |ok v=>
   obtain rfl:=wq_ hws hr
   (refine a_ rfl rfl ?_ ?_<;>intro h<;>simp only [nc]at h<;>try omega)
   exact vw_ (W_ acc v (by omega)) (C_ _) (vw_ (g_ (by omega) (by omega)) rfl (uu_ rfl ⟨(acc++[v],i+1),⟨by simp;omega,hi,hrx v hr⟩,rfl,by simp only;omega⟩))
 have hi:i=args.length:=by omega
 subst hi;have hL:=wo_ h3;have hi64:=uP_ hm ha hL;have hS:=hR _ hL;have hbk:=wD_ hb hm (decide ((acc.headD FV.z).i≠0)) hi64.1 hn;refine uv_ (p61 hm hn hb (l:=acc) (by rw [List.length_map];exact h1) ⟨hi64.2,hi64.1⟩) (by show okL [c_ mem,.int .i64 kd,.int .i64 ad,c_ acc,.int .i64 now]=true;simp only [okL,okC,C_]) ⟨?_,trivial⟩;rintro ws rfl;exact vc_ (xx_ hm hbk.1) (vc_ (nnV hbk.1) (tW_ rfl hS (by omega)))
theorem p44 {now mx:Int} (hn: -9223372036854775808<=now/\now<=9223372036854775807) (hx:mx<=100000):∀d:Nat,P44 now mx d
 |d,l,hL,hT,mem,lp,hm,hl,hl2=>by
  refine vg_ (c:=c44) (n:=300) (t:=t44) mo ov rfl (λY _=>vD_ _) (by kernel_rfl) λY hf hg=>?_;unfold t44;refine vc_ (nnV hm) ?_;generalize hres:J_ (j_ now d) l mem (mx-lp)=res at*;refine uJ_ (ι:=Nat×List FV×Int) (λs=>[.int .i64 (s.1:Int),c_ s.2.1,.int .i64 s.2.2]) (λs=>s.1<=l.length/\MemOk s.2.1/\0<=s.2.2/\s.2.2<=mx/\J_ (j_ now d) (l.drop s.1) s.2.1 (mx-s.2.2)=res) (λs=>l.length-s.1) (0,mem,lp) ⟨Nat.zero_le _,hm,hl,hl2,hres⟩ rfl (λs _=>by simp only [okL,okC,C_]) (λs s' _ _ h=>by simp at h;omega) (λs hs=>?_);obtain ⟨i,m,lf⟩:=s;obtain ⟨h1,hm1,hl1,hl3,hr⟩:=hs;simp only at h1 hm1 hl1 hl3 hr⊢;refine vw_ (v2_ l) rfl ?_
  (refine a_ rfl rfl ?_ ?_<;>intro h<;>simp only [nc]at h<;>try omega)
  .have hi:i<l.length:=(by omega);have hld:=ws_ l hi;have hs:=hT l[i] (List.getElem_mem hi);rw [List.drop_eq_getElem_cons hi,yP_]at hr;have hkk:=G_ hn d l[i] hs m (mx-lf) hm1 (by omega);obtain ⟨d,rfl⟩:∃e,d=e+1:=by
    cases d with
    |zero=>exact absurd hs (by cases l[i];exact id)
    |succ d=>exact ⟨d,rfl⟩
   have h76:CF Tryz.prog 76 w9_ (MD m now lf mx++v_ l[i]) (RD mx (j_ now (d+1) l[i] m (mx-lf))):=(by have ih:=p44 hn hx d;rcases hss:l[i]with ⟨op,to,e,thn,els,nm,kd,ad,args⟩;rw [hss]at hs;rcases hs with ⟨rfl,q2,q3,q4,q5,_⟩|⟨rfl|rfl,q2,_,q4,q5,q6,q7⟩|⟨rfl,q2,q3,_⟩;rw [j_,if_pos rfl];exact CX_ hm1 q2 q3 q4 q5;exact CW_ hx hn ih hm1 hl1 hl3 q2 q4 q5 q6 q7;exact CY_ hx hn ih hm1 hl1 hl3 q2 q4 q6;rw [j_,if_neg (by decide),if_neg (by decide),if_neg (by decide)];exact CV_ hn hm1 q2 q3);generalize j_ now (d+1) l[i] m (mx-lf)=r at*;refine vw_ (wr_ l hi) (oL_ okS _) ?_;generalize l[i]=s at*;obtain ⟨op,⟨z1,z2,z3,z4,z5,z6,z7,z8,z9,z10⟩,⟨e1,e2,e3,e4,e5,e6,e7,e8,e9,e10⟩,thn,els,nm,kd,ad,args⟩:=s;refine ve_ hld rfl (okS (.mk op (.mk z1 z2 z3 z4 z5 z6 z7 z8 z9 z10) (.mk e1 e2 e3 e4 e5 e6 e7 e8 e9 e10) thn els nm kd ad args)) ?_;refine uv_ h76 (AL_ m now lf mx (.mk op (.mk z1 z2 z3 z4 z5 z6 z7 z8 z9 z10) (.mk e1 e2 e3 e4 e5 e6 e7 e8 e9 e10) thn els nm kd ad args)) ⟨?_,trivial⟩;rintro ws rfl
   (refine a_ rfl rfl ?_ ?_<;>intro h<;>simp only [nc]at h<;>try omega)
   rw [if_neg h]at hr;exact vc_ (nnV hkk.1) (tW_ rfl hr.symm rfl);rw [if_pos h]at hr;have:=hkk.2.2.1 h;exact vw_ (g_ (by omega) (by omega)) rfl (vc_ (nnV hkk.1) (uu_ rfl ⟨(i+1,r.mem,mx-r.left),⟨hi,hkk.1,by simp only;omega,by simp only;omega,by simp only;rw [show mx-(mx-r.left)=r.left by omega];exact hr⟩,rfl,by simp only;omega⟩))
  have hi:i=l.length:=(by omega);subst hi;rw [List.drop_length]at hr;exact vc_ (nnV hm1) (tW_ rfl hr.symm (by omega))
theorem p17 {now:Int} (hn: -9223372036854775808<=now/\now<=9223372036854775807) {d:Nat} {l:List GS} (hL:l.length<=5) (hT:∀s∈l,TS d s) (vars:AV) (hv:okC vars=true) {mem:List FV} (hm:MemOk mem) {mx:Int} (hl:0<=mx) (hl2:mx<=100000):
  CF Tryz.prog 17 zW_ [vars,A_ l,c_ mem,.int .i64 now,.int .i64 mx] (RQ (J_ (j_ now d) l mem mx)):=by
 refine vg_ (c:=c17) (n:=300) (t:=t17) mo ov rfl (λY _=>vD_ _) (by kernel_rfl) λY hf hg=>?_;unfold t17;refine vw_ (yl_ hm) (C_ mem) ?_;have h44:=p44 hn hl2 d l hL hT mem 0 hm (Int.le_refl _) hl;rw [Int.sub_zero]at h44;generalize J_ (j_ now d) l mem mx=res at*;refine uv_ h44 (xL_ mem now 0 mx l) ⟨?_,trivial⟩;rintro ws rfl;exact VOK_fin (ok2 _ _) (show _=[c_ res.mem,.int .i64 res.e] from rfl)
def c54:VC:=⟨⟨[],[]⟩,[],[],0,true,[]⟩
def t54:VT:=It Zt [64,64] 65 (.done (.int .u64 9221120237041090561))<|Li (.ext 88) [64] 66<|.done (66)
def c52:VC:=⟨⟨[],[]⟩,[(54,[none])],[],0,true,[]⟩
def t52:VT:=.call 54 [64] 66 [none]<|.call 54 [65] 67 [none]<|Li (.bin .eql 101 false false) [66,67] 68<|.done (68)
def c24:VC:=⟨⟨[],[]⟩,[(52,[none])],[],0,true,[]⟩
def t24:VT:=It Qk [64,67] 70 (It Qq [65,68] 71 (.call 52 [66,69] 72 [none]<|.done (72))<|.done (.bool false))<|.done (.bool false)
def Ao_:Option Nat->Int
 |none=>9221120237041090561
 |some n=>if dk_ n=true then 9221120237041090561 else (n:Int)
theorem AE_ (n:Nat):(XOp.ext 88).run Tryz.prog [.flt .f64 n]=some (.int .u64 (n:Int)):=by kernel_rfl
theorem p54 (o:Option Nat):jz_ Tryz.prog 54 [fv o] (.int .u64 (Ao_ o)):=by
 refine t7_ (sh:=[none]) (ls:=[fv o]) (c:=c54) (n:=300) (t:=t54) mo ov rfl (yD_ o) rfl (λY _=>vD_ _) rfl (by kernel_rfl) λY hf hg=>?_;unfold t54;refine vw_ (qv_ ..) rfl (vd_ rfl (λh=>?_) (λh=>?_))
 .rw [wb_]at h;refine uI_ ?_;cases o with
  |none=>rfl
  |some n=>show AV.int _ _=AV.int _ (if dk_ n=true then 9221120237041090561 else (n:Int));exact congrArg (AV.int .u64) (if_pos h).symm
 .rw [wb_]at h;cases o with
  |none=>cases h
  |some n=>refine vw_ (AE_ n) rfl (uI_ ?_);show AV.int _ _=AV.int _ (if dk_ n=true then 9221120237041090561 else (n:Int));rw [if_neg (by rw [show dk_ n=false from h];exact Bool.false_ne_true)]
theorem p52 (o:Option Nat):jz_ Tryz.prog 52 [fv o,fv o] (.bool true):=by refine t7_ (sh:=[none,none]) (ls:=[fv o,fv o]) (c:=c52) (n:=300) (t:=t52) mo ov rfl (by simp only [okL,vN_]) rfl (λY _=>vD_ _) rfl (by kernel_rfl) λY hf hg=>?_;unfold t52;exact uH_ (p54 o) rfl rfl (uH_ (p54 o) rfl rfl (vw_ (run_eql ..) rfl (uI_ (congrArg AV.bool (decide_eq_true rfl)))))
theorem p24 (v:FV):jz_ Tryz.prog 24 [.agg (d_ v),.agg (d_ v)] (.bool true):=by
 refine t7_ (sh:=[some 3,some 3]) (ls:=d_ v++d_ v) (c:=c24) (n:=300) (t:=t24) mo ov rfl (oL_.okL_join (okV v) (okV v)) rfl (λY _=>vD_ _) rfl (by kernel_rfl) λY hf hg=>?_;unfold t24
 (refine a_ rfl rfl ?_ ?_<;>intro h<;>simp only [nc]at h<;>try omega)
 (refine a_ rfl rfl ?_ ?_<;>intro h<;>simp only [nc]at h<;>try omega)
 exact uH_ (p52 v.f) rfl rfl (uI_ rfl)
def c18:VC:=⟨⟨[],[]⟩,[(24,[none])],[(0,[⟨[(5,.slx 0 0 0),(1,65),(0,64)],[],0,1,[],[],[]⟩])],0,true,[]⟩
def t18:VT:=Li Qp [64] 66<|Li Qp [65] 67<|It Q7 [66,67] 68 (.done (.bool false))<|.loop 69 0 [J 0] (.cons 1 (Li Qp [64] 70<|It Q4 [69,70] 71 (Li Qb [64,69] 72<|.lt Qm [72] 73 (some 3)<|Li Qb [65,69] 76<|.lt Qm [76] 77 (some 3)<|.call 24 [.agg [73,74,75],.agg [77,78,79]] 80 [none]<|It Q3 [80] 81 (.done (.bool false))<|Li Q2 [69,J 1] 82<|.again 0 0 [82])<|.done (.bool true)) .nil)
theorem p18 {l:List FV} (hl:l.length<=1000):jz_ Tryz.prog 18 [c_ l,c_ l] (.bool true):=by
 refine t7_ (sh:=[none,none]) (ls:=[c_ l,c_ l]) (c:=c18) (n:=300) (t:=t18) mo ov rfl (by simp only [okL,C_]) rfl (λY _=>vD_ _) rfl (by kernel_rfl) λY hf hg=>?_;unfold t18;refine vw_ (qZ_ l) rfl (vw_ (qZ_ l) rfl ?_)
 (refine a_ rfl rfl ?_ ?_<;>intro h<;>simp only [nc]at h<;>try omega)
 refine uJ_ (ι:=Nat) (λi=>[.int .i64 (i:Int)]) (λi=>i<=l.length) (λi=>l.length-i) 0 (Nat.zero_le _) rfl (λ_ _=>rfl) (λs s' _ _ h=>by simp at h;omega) (λi hi=>?_);refine vw_ (qZ_ l) rfl ?_
 (refine a_ rfl rfl ?_ ?_<;>intro h<;>simp only [nc]at h<;>try omega)
 have hi:i<l.length:=(by omega);refine vw_ (vT_ l hi) (oL_ okV _) (ve_ (vU_ l hi) rfl (okV _) ?_);refine vw_ (vT_ l hi) (oL_ okV _) (ve_ (vU_ l hi) rfl (okV _) ?_);refine uH_ (p24 l[i]) rfl rfl (vw_ (r:=.bool false) rfl rfl (vd_ (t:=false) rfl (λh=>by cases h) (λ_=>?_)));exact vw_ (g_ (by omega) (by omega)) rfl (uu_ rfl ⟨i+1,hi,rfl,by omega⟩);exact uI_ rfl
theorem yn_ (n:Nat) (h:n<65536):(XOp.conv 23 2).run Tryz.prog [.int .u16 (n:Int)]=some (.int .i64 (n:Int)):=by rw [tG_ Tryz.underlying23 Tryz.underlying2,vL_ (by omega) (by omega)]
namespace Beg
abbrev G (l:List (FuncId×List AV×AV)):Gl:=glT gl0 nr0 l
theorem o0: @kQ_ (G []) Tryz.prog:=vH_ gl0 nr0 Tryz.prog
def z5:AV:=.int .i64 1
def z9:AV:=.int .i64 2
def z6:AV:=.int .i64 0
def z7:AV:=.flt .f64 0
def z8:AV:=.int .i64 5
def z0:AV:=.vsl 7 10 [.str [97],z5,z9,z6,z9,z6,z7,z6,z6,z7,.str [98],z5,z5,z6,z5,z6,z7,z6,z6,z7,.str [111],z9,z9,z6,z9,z5,z7,z9,.int .i64 9,z7,.str [110],.int .i64 3,z9,z6,z9,z6,z7,z6,z6,z7,.str [120],.int .i64 3,z9,z6,z9,z6,z7,z6,z6,z7,.str [114],.int .i64 3,z8,z6,z8,z6,z7,z6,z6,z7,.str [107],.int .i64 3,z9,.int .i64 3,z9,z6,z7,z6,z6,z7]
def z4:AV:=.str []
def z1:AV:=.vsl 4 27 [z5,z9,z6,.str [110],z4,z6,z6,z6,z6,z7,.nsl,.int .i64 4,z6,z4,z4,z6,z6,z6,z6,z7,.vsl 2 10 [z9,z6,.str [110],z4,z6,z6,z6,z6,z7,.nsl,z5,z6,z4,z4,z6,z6,.int .i64 3,z5,z7,.nsl],.nsl,.nsl,z4,z6,z6,.nsl,z5,z9,z6,.str [111],z4,z6,z6,z6,z6,z7,.nsl,.int .i64 4,z6,z4,z4,z6,z6,z6,z6,z7,.vsl 2 10 [z9,z6,.str [120],z4,z6,z6,z6,z6,z7,.nsl,z9,z6,.str [97],z4,z6,z6,z6,z6,z7,.nsl],.nsl,.nsl,z4,z6,z6,.nsl,z9,z6,z6,z4,z4,z6,z6,z6,z6,z7,.nsl,z9,z6,.str [98],z4,z6,z6,z6,z6,z7,.nsl,.vsl 1 27 [z5,.int .i64 3,z6,.str [107],z4,z6,z6,z6,z6,z7,.vsl 1 10 [z9,z6,.str [120],z4,z6,z6,z6,z6,z7,.nsl],z9,z6,.str [97],z4,z6,z6,z6,z6,z7,.nsl,.nsl,.nsl,z4,z6,z6,.nsl],.nsl,z4,z6,z6,.nsl,z5,z9,z6,.str [114],z4,z6,z6,z6,z6,z7,.nsl,.int .i64 4,z6,z4,z4,z6,z6,z6,z6,z7,.vsl 2 10 [z9,z6,.str [114],z4,z6,z6,z6,z6,z7,.nsl,z5,z6,z4,z4,z6,z6,z8,z6,.flt .f64 4602678819172646912,.nsl],.nsl,.nsl,z4,z6,z6,.nsl]
def z2:AV:=.vsl 4 27 [z5,z9,z9,.str [110],z4,.int .i64 3,z6,z6,z6,z7,.nsl,.int .i64 4,z9,z4,z4,z6,z6,z6,z6,z7,.vsl 2 10 [z9,z9,.str [110],z4,.int .i64 3,z6,z6,z6,z7,.nsl,z5,z9,z4,z4,z6,z6,z9,z5,z7,.nsl],.nsl,.nsl,z4,z6,z6,.nsl,z5,z9,z9,.str [111],z4,z9,z6,z6,z6,z7,.nsl,.int .i64 4,z9,z4,z4,z6,z6,z6,z6,z7,.vsl 2 10 [z9,z9,.str [120],z4,.int .i64 4,z6,z6,z6,z7,.nsl,z9,z9,.str [97],z4,z6,z6,z6,z6,z7,.nsl],.nsl,.nsl,z4,z6,z6,.nsl,z9,z6,z6,z4,z4,z6,z6,z6,z6,z7,.nsl,z9,z5,.str [98],z4,z5,z6,z6,z6,z7,.nsl,.vsl 1 27 [z5,.int .i64 3,z9,.str [107],z4,.int .i64 6,.int .i64 3,z6,z6,z7,.vsl 1 10 [z9,z9,.str [120],z4,.int .i64 4,z6,z6,z6,z7,.nsl],z9,z9,.str [97],z4,z6,z6,z6,z6,z7,.nsl,.nsl,.nsl,z4,z6,z6,.nsl],.nsl,z4,z6,z6,.nsl,z5,z9,z8,.str [114],z4,z8,z6,z6,z6,z7,.nsl,.int .i64 4,z8,z4,z4,z6,z6,z6,z6,z7,.vsl 2 10 [z9,z8,.str [114],z4,z8,z6,z6,z6,z7,.nsl,z5,z8,z4,z4,z6,z6,z8,z6,.flt .f64 4602678819172646912,.nsl],.nsl,.nsl,z4,z6,z6,.nsl]
def z3:AV:=.str [105,110,32,97,32,58,32,105,110,116,59,32,105,110,32,98,32,58,32,98,111,111,108,59,32,111,117,116,32,111,32,58,32,105,110,116,32,58,61,32,49,44,32,57,59,32,118,97,114,32,110,32,58,32,105,110,116,59,32,118,97,114,32,120,32,58,32,105,110,116,59,32,118,97,114,32,114,32,58,32,114,101,97,108,59,32,118,97,114,32,107,32,58,32,105,110,116,91,51,93,59,32,110,32,58,61,32,110,32,43,32,49,59,32,111,32,58,61,32,120,32,43,32,97,59,32,105,102,32,98,32,116,104,101,110,32,107,91,120,93,32,58,61,32,97,59,32,101,110,100,32,114,32,58,61,32,114,32,43,32,48,46,53,59]
def a0:List AV:=[z3]
def v0:AV:=.tup [.vsl 71 5 [z5,.str [105,110],z6,z7,z6,z5,.str [97],z6,z7,.int .i64 3,z8,.str [58],z6,z7,z8,z5,.str [105,110,116],z6,z7,.int .i64 7,z8,.str [59],z6,z7,.int .i64 10,z5,.str [105,110],z6,z7,.int .i64 12,z5,.str [98],z6,z7,.int .i64 15,z8,.str [58],z6,z7,.int .i64 17,z5,.str [98,111,111,108],z6,z7,.int .i64 19,z8,.str [59],z6,z7,.int .i64 23,z5,.str [111,117,116],z6,z7,.int .i64 25,z5,.str [111],z6,z7,.int .i64 29,z8,.str [58],z6,z7,.int .i64 31,z5,.str [105,110,116],z6,z7,.int .i64 33,z8,.str [58,61],z6,z7,.int .i64 37,z9,z4,z5,z7,.int .i64 40,z8,.str [44],z6,z7,.int .i64 41,z9,z4,.int .i64 9,z7,.int .i64 43,z8,.str [59],z6,z7,.int .i64 44,z5,.str [118,97,114],z6,z7,.int .i64 46,z5,.str [110],z6,z7,.int .i64 50,z8,.str [58],z6,z7,.int .i64 52,z5,.str [105,110,116],z6,z7,.int .i64 54,z8,.str [59],z6,z7,.int .i64 57,z5,.str [118,97,114],z6,z7,.int .i64 59,z5,.str [120],z6,z7,.int .i64 63,z8,.str [58],z6,z7,.int .i64 65,z5,.str [105,110,116],z6,z7,.int .i64 67,z8,.str [59],z6,z7,.int .i64 70,z5,.str [118,97,114],z6,z7,.int .i64 72,z5,.str [114],z6,z7,.int .i64 76,z8,.str [58],z6,z7,.int .i64 78,z5,.str [114,101,97,108],z6,z7,.int .i64 80,z8,.str [59],z6,z7,.int .i64 84,z5,.str [118,97,114],z6,z7,.int .i64 86,z5,.str [107],z6,z7,.int .i64 90,z8,.str [58],z6,z7,.int .i64 92,z5,.str [105,110,116],z6,z7,.int .i64 94,z8,.str [91],z6,z7,.int .i64 97,z9,z4,.int .i64 3,z7,.int .i64 98,z8,.str [93],z6,z7,.int .i64 99,z8,.str [59],z6,z7,.int .i64 100,z5,.str [110],z6,z7,.int .i64 102,z8,.str [58,61],z6,z7,.int .i64 104,z5,.str [110],z6,z7,.int .i64 107,z8,.str [43],z6,z7,.int .i64 109,z9,z4,z5,z7,.int .i64 111,z8,.str [59],z6,z7,.int .i64 112,z5,.str [111],z6,z7,.int .i64 114,z8,.str [58,61],z6,z7,.int .i64 116,z5,.str [120],z6,z7,.int .i64 119,z8,.str [43],z6,z7,.int .i64 121,z5,.str [97],z6,z7,.int .i64 123,z8,.str [59],z6,z7,.int .i64 124,z5,.str [105,102],z6,z7,.int .i64 126,z5,.str [98],z6,z7,.int .i64 129,z5,.str [116,104,101,110],z6,z7,.int .i64 131,z5,.str [107],z6,z7,.int .i64 136,z8,.str [91],z6,z7,.int .i64 137,z5,.str [120],z6,z7,.int .i64 138,z8,.str [93],z6,z7,.int .i64 139,z8,.str [58,61],z6,z7,.int .i64 141,z5,.str [97],z6,z7,.int .i64 144,z8,.str [59],z6,z7,.int .i64 145,z5,.str [101,110,100],z6,z7,.int .i64 147,z5,.str [114],z6,z7,.int .i64 151,z8,.str [58,61],z6,z7,.int .i64 153,z5,.str [114],z6,z7,.int .i64 156,z8,.str [43],z6,z7,.int .i64 158,.int .i64 3,z4,z6,.flt .f64 4602678819172646912,.int .i64 160,z8,.str [59],z6,z7,.int .i64 163],z6,.bool true]
theorem e0: @uU_ (G []) Tryz.prog 3000 62 a0 v0=true:=by kernel_rfl
def l1:List (FuncId×List AV×AV):=(62,a0,v0)::[]
theorem o1: @kQ_ (G l1) Tryz.prog:=vn_ o0 (@vj_ (G []) Tryz.prog mo o0 3000 62 a0 v0 e0)
def a1:List AV:=[.agg [z9,z6,.str [110],z4,z6,z6,z6,z6,z7,.nsl]]
def v1:AV:=z5
theorem e1: @uU_ (G l1) Tryz.prog 3000 111 a1 v1=true:=by kernel_rfl
def l2:List (FuncId×List AV×AV):=(111,a1,v1)::l1
theorem o2: @kQ_ (G l2) Tryz.prog:=vn_ o1 (@vj_ (G l1) Tryz.prog mo o1 3000 111 a1 v1 e1)
def a2:List AV:=[.agg [z5,z6,z4,z4,z6,z6,.int .i64 3,z5,z7,.nsl]]
def v2:AV:=z5
theorem e2: @uU_ (G l2) Tryz.prog 3000 111 a2 v2=true:=by kernel_rfl
def l3:List (FuncId×List AV×AV):=(111,a2,v2)::l2
theorem o3: @kQ_ (G l3) Tryz.prog:=vn_ o2 (@vj_ (G l2) Tryz.prog mo o2 3000 111 a2 v2 e2)
def a3:List AV:=[.nsl]
def v3:AV:=z6
theorem e3: @uU_ (G l3) Tryz.prog 3000 67 a3 v3=true:=by kernel_rfl
def l4:List (FuncId×List AV×AV):=(67,a3,v3)::l3
theorem o4: @kQ_ (G l4) Tryz.prog:=vn_ o3 (@vj_ (G l3) Tryz.prog mo o3 3000 67 a3 v3 e3)
def a4:List AV:=[.agg [z9,z6,.str [111],z4,z6,z6,z6,z6,z7,.nsl]]
def v4:AV:=z5
theorem e4: @uU_ (G l4) Tryz.prog 3000 111 a4 v4=true:=by kernel_rfl
def l5:List (FuncId×List AV×AV):=(111,a4,v4)::l4
theorem o5: @kQ_ (G l5) Tryz.prog:=vn_ o4 (@vj_ (G l4) Tryz.prog mo o4 3000 111 a4 v4 e4)
def a5:List AV:=[.agg [z9,z6,.str [120],z4,z6,z6,z6,z6,z7,.nsl]]
def v5:AV:=z5
theorem e5: @uU_ (G l5) Tryz.prog 3000 111 a5 v5=true:=by kernel_rfl
def l6:List (FuncId×List AV×AV):=(111,a5,v5)::l5
theorem o6: @kQ_ (G l6) Tryz.prog:=vn_ o5 (@vj_ (G l5) Tryz.prog mo o5 3000 111 a5 v5 e5)
def a6:List AV:=[.agg [z9,z6,.str [97],z4,z6,z6,z6,z6,z7,.nsl]]
def v6:AV:=z5
theorem e6: @uU_ (G l6) Tryz.prog 3000 111 a6 v6=true:=by kernel_rfl
def l7:List (FuncId×List AV×AV):=(111,a6,v6)::l6
theorem o7: @kQ_ (G l7) Tryz.prog:=vn_ o6 (@vj_ (G l6) Tryz.prog mo o6 3000 111 a6 v6 e6)
def a7:List AV:=[.agg [z6,z6,z4,z4,z6,z6,z6,z6,z7,.nsl]]
def v7:AV:=z6
theorem e7: @uU_ (G l7) Tryz.prog 3000 111 a7 v7=true:=by kernel_rfl
def l8:List (FuncId×List AV×AV):=(111,a7,v7)::l7
theorem o8: @kQ_ (G l8) Tryz.prog:=vn_ o7 (@vj_ (G l7) Tryz.prog mo o7 3000 111 a7 v7 e7)
def a8:List AV:=[.agg [z9,z6,.str [98],z4,z6,z6,z6,z6,z7,.nsl]]
def v8:AV:=z5
theorem e8: @uU_ (G l8) Tryz.prog 3000 111 a8 v8=true:=by kernel_rfl
def l9:List (FuncId×List AV×AV):=(111,a8,v8)::l8
theorem o9: @kQ_ (G l9) Tryz.prog:=vn_ o8 (@vj_ (G l8) Tryz.prog mo o8 3000 111 a8 v8 e8)
def a9:List AV:=[.agg [z9,z6,.str [114],z4,z6,z6,z6,z6,z7,.nsl]]
def v9:AV:=z5
theorem e9: @uU_ (G l9) Tryz.prog 3000 111 a9 v9=true:=by kernel_rfl
def l10:List (FuncId×List AV×AV):=(111,a9,v9)::l9
theorem o10: @kQ_ (G l10) Tryz.prog:=vn_ o9 (@vj_ (G l9) Tryz.prog mo o9 3000 111 a9 v9 e9)
def a10:List AV:=[.agg [z5,z6,z4,z4,z6,z6,z8,z6,.flt .f64 4602678819172646912,.nsl]]
def v10:AV:=z5
theorem e10: @uU_ (G l10) Tryz.prog 3000 111 a10 v10=true:=by kernel_rfl
def l11:List (FuncId×List AV×AV):=(111,a10,v10)::l10
theorem o11: @kQ_ (G l11) Tryz.prog:=vn_ o10 (@vj_ (G l10) Tryz.prog mo o10 3000 111 a10 v10 e10)
def a11:List AV:=[z3]
def v11:AV:=.tup [.agg [z0,z1],z6,.bool true]
theorem e11: @uU_ (G l11) Tryz.prog 3000 35 a11 v11=true:=by kernel_rfl
def l12:List (FuncId×List AV×AV):=(35,a11,v11)::l11
theorem o12: @kQ_ (G l12) Tryz.prog:=vn_ o11 (@vj_ (G l11) Tryz.prog mo o11 3000 35 a11 v11 e11)
def a12:List AV:=[z0]
def v12:AV:=z6
theorem e12: @uU_ (G l12) Tryz.prog 3000 45 a12 v12=true:=by kernel_rfl
def l13:List (FuncId×List AV×AV):=(45,a12,v12)::l12
theorem o13: @kQ_ (G l13) Tryz.prog:=vn_ o12 (@vj_ (G l12) Tryz.prog mo o12 3000 45 a12 v12 e12)
def a13:List AV:=[z0,.vsl 1 27 [z5,.int .i64 3,z6,.str [107],z4,z6,z6,z6,z6,z7,.vsl 1 10 [z9,z6,.str [120],z4,z6,z6,z6,z6,z7,.nsl],z9,z6,.str [97],z4,z6,z6,z6,z6,z7,.nsl,.nsl,.nsl,z4,z6,z6,.nsl]]
def v13:AV:=.tup [.vsl 1 27 [z5,.int .i64 3,z9,.str [107],z4,.int .i64 6,.int .i64 3,z6,z6,z7,.vsl 1 10 [z9,z9,.str [120],z4,.int .i64 4,z6,z6,z6,z7,.nsl],z9,z9,.str [97],z4,z6,z6,z6,z6,z7,.nsl,.nsl,.nsl,z4,z6,z6,.nsl],z6]
theorem e13: @uU_ (G l13) Tryz.prog 3000 46 a13 v13=true:=by kernel_rfl
def l14:List (FuncId×List AV×AV):=(46,a13,v13)::l13
theorem o14: @kQ_ (G l14) Tryz.prog:=vn_ o13 (@vj_ (G l13) Tryz.prog mo o13 3000 46 a13 v13 e13)
def a14:List AV:=[z0,.nsl]
def v14:AV:=.tup [.nsl,z6]
theorem e14: @uU_ (G l14) Tryz.prog 3000 46 a14 v14=true:=by kernel_rfl
def l15:List (FuncId×List AV×AV):=(46,a14,v14)::l14
theorem o15: @kQ_ (G l15) Tryz.prog:=vn_ o14 (@vj_ (G l14) Tryz.prog mo o14 3000 46 a14 v14 e14)
def a15:List AV:=[z0,z1]
def v15:AV:=.tup [z2,z6]
theorem e15: @uU_ (G l15) Tryz.prog 3000 46 a15 v15=true:=by kernel_rfl
def l16:List (FuncId×List AV×AV):=(46,a15,v15)::l15
theorem o16: @kQ_ (G l16) Tryz.prog:=vn_ o15 (@vj_ (G l15) Tryz.prog mo o15 3000 46 a15 v15 e15)
def a16:List AV:=[.agg [z0,z1]]
def v16:AV:=.tup [.agg [z0,z2],z6]
theorem e16: @uU_ (G l16) Tryz.prog 3000 19 a16 v16=true:=by kernel_rfl
def l17:List (FuncId×List AV×AV):=(19,a16,v16)::l16
theorem o17: @kQ_ (G l17) Tryz.prog:=vn_ o16 (@vj_ (G l16) Tryz.prog mo o16 3000 19 a16 v16 e16)
theorem eb: @uU_ (G l17) Tryz.prog 3000 12 [] (.bool true)=true:=by kernel_rfl
end Beg
theorem k12:jz_ Tryz.prog 12 [] (.bool true):= @vj_ (Beg.G Beg.l17) Tryz.prog mo Beg.o17 3000 12 [] (.bool true) Beg.eb
def c38:VC:=⟨⟨[],[]⟩,[(20,[none])],[],1,true,[(70,ft70)]⟩
def t38:VT:=.call 20 [] 66 [none]<|Cf 70 ft70 [64,65,J 5,J 2] 67 2<|Dn [66,71,72]
def c14:VC:=⟨⟨[],[]⟩,[],[],0,true,[]⟩
def t14:VT:=Dn []
def c19:VC:=⟨⟨[],[]⟩,[(45,[none])],[],0,true,[(46,ft46)]⟩
def t19:VT:=.call 45 [64] 66 [none]<|It Q5 [66,J 0] 67 (Dn [.nsl,.nsl,66])<|Cf 46 ft46 [64,65] 68 2<|It Q5 [71,J 0] 72 (Dn [.nsl,.nsl,71])<|Li (.app 10 88) [.vsl 0 10 [],64] 73<|Dn [73,70,J 0]
def c13:VC:=⟨⟨[],[]⟩,[],[],0,true,[(14,ft14),(38,ft38),(19,ft19)]⟩
def t13:VT:=Cf 14 ft14 [64] 65 0<|Cf 38 ft38 [64,J 0] 66 3<|Cf 19 ft19 [68,69] 71 3<|Li Qz [75,J 0] 76<|Dn [73,74,76]
def R19 (l:List UInt8):Nat->List AV->Prop:=λ_ ws=>∃(b:List GS) (n:Nat),ws=[VARS,A_ b,.int .i64 (n:Int)]/\b.length<=5/\∀s∈b,WS 3 s
theorem p38 {l:List UInt8} {a:AV} (hp:Pk l a):CF Tryz.prog 38 ft38 [a,.int .i64 0] (R19 l):=by have hA:=hp.1.ok v1_;refine vg_ (c:=c38) (n:=300) (t:=t38) mo ov rfl (λY _=>vD_ _) (by kernel_rfl) λY hf hg=>?_;unfold t38;refine uH_ k37 rfl rfl ?_;refine b_ ((pS hp 2 (by decide)).2 0 5 (Nat.zero_le _) (by decide) (by decide)) rfl (okR hA) ⟨?_,trivial⟩;rintro ws ⟨b,n,rfl,⟨h1,h2⟩,h3⟩;exact VOK_fin (by show okL [VARS,A_ b,.int .i64 (n:Int)]=true;rw [aX_];simp only [okL,okC,okB];rfl) ⟨b,n,rfl,h1,h2⟩
theorem p14 (a:AV) (h:okC a=true):CF Tryz.prog 14 ft14 [a] (λ_ ws=>ws=[]):=by refine vg_ (c:=c14) (n:=300) (t:=t14) mo ov rfl (λY _=>vD_ _) (by kernel_rfl) λY hf hg=>?_;unfold t14;exact VOK_fin rfl rfl
def RC (l:List GS):Nat->List AV->Prop:=λ_ ws=>∃(v:AV) (b:List GS) (e:Int),ws=[v,A_ b,.int .i64 e]/\okC v=true/\(e≠0->b=[])/\(e=0->v=VARS/\b.length=l.length/\(∀s∈b,TS 3 s)/\LKs l b)
theorem zE_ {v:AV} (hv:okC v=true) (b:List GS) {x:AV} (hx:okC x=true):okL [v,A_ b,x]=true:=by simp only [okL,hv,okB,hx]
theorem p19 (b:List GS) (hl:b.length<=5) (h:∀s∈b,WS 3 s):CF Tryz.prog 19 ft19 [VARS,A_ b] (RC b):=by
 refine vg_ (c:=c19) (n:=300) (t:=t19) mo ov rfl (λY _=>vD_ _) (by kernel_rfl) λY hf hg=>?_;unfold t19;refine uH_ k35 rfl rfl ?_
 (refine a_ rfl rfl ?_ ?_<;>intro h<;>simp only [nc]at h<;>try omega)
 refine b_ (p46 3 (p78 3) b hl (by assumption)) rfl (zg_ _) ⟨?_,trivial⟩;rintro ws ⟨b',e,rfl,hb⟩
 (refine a_ rfl rfl ?_ ?_<;>intro h<;>simp only [nc]at h<;>try omega)
 exact VOK_fin rfl ⟨.nsl,[],e,rfl,rfl,λ_=>rfl,λhe=>absurd he (by assumption)⟩;have hb:=hb (by assumption);refine vw_ (r:=VARS) rfl rfl (VOK_fin (zE_ (v:=VARS) rfl b' (x:=.int .i64 0) rfl) ⟨VARS,b',0,rfl,rfl,λhe=>absurd rfl he,λ_=>⟨rfl,hb⟩⟩)
def R7:Nat->List AV->Prop:=λ_ ws=>∃(v:AV) (b:List GS) (e:Bool),ws=[v,A_ b,.bool e]/\okC v=true/\(e=false->b=[])/\(e=true->v=VARS/\b.length<=5/\∀s∈b,TS 3 s)
theorem p13 {l:List UInt8} {a:AV} (hp:Pk l a):CF Tryz.prog 13 ft13 [a] R7:=by have hA:=hp.1.ok v1_;refine vg_ (c:=c13) (n:=300) (t:=t13) mo ov rfl (λY _=>vD_ _) (by kernel_rfl) λY hf hg=>?_;unfold t13;refine b_ (p14 a hA) rfl (by simp only [okL,hA]) ⟨?_,trivial⟩;rintro ws rfl;refine b_ (p38 hp) rfl (by simp only [okL,hA,okC]) ⟨?_,trivial⟩;rintro ws ⟨b,n,rfl,h1,h2⟩;refine b_ (p19 b h1 h2) rfl (zg_ _) ⟨?_,trivial⟩;rintro ws ⟨v,b',e,rfl,hv,h0,hb⟩;refine vw_ (run_eql ..) rfl (VOK_fin (zE_ hv b' (x:=.bool _) rfl) ⟨v,b',decide (e=0),rfl,hv,λhe=>h0 (by simpa using he),λhe=>by obtain ⟨q1,q2,q3,_⟩:=hb (of_decide_eq_true he);exact ⟨q1,by omega,q3⟩⟩)
theorem xP_ {α:Type} {enc:α->List AV} {p:List AV->Prop} {q:α->Prop} (h:∀r,p r->∃a,r=enc a/\q a):∀rows:List (List AV),(∀r,r∈rows->p r)->∃l:List α,rows.flatten=cf_ enc l/\l.length=rows.length/\∀a,a∈l->q a
 |[],_=>⟨[],rfl,rfl,λa h=>by cases h⟩
 |r::rows,hr=>by obtain ⟨a,rfl,ha⟩:=h r (hr r (List.mem_cons_self ..));obtain ⟨l,h1,h2,h3⟩:=xP_ h rows λr h=>hr r (List.mem_cons_of_mem _ h);refine ⟨a::l,by rw [List.flatten_cons,h1];rfl,by simp [h2],λb hb=>?_⟩;rcases List.mem_cons.1 hb with rfl|hb;exact ha;exact h3 b hb
theorem zV_ {r:List AV} (h:Sx.Fit Tryz.prog 5 r):∃c:UInt8,r=vz_ c/\True:=by
 obtain ⟨n,rfl,hn⟩:=tv_ Tryz.underlying5 h;have hn:0<=n/\n<=255:=by simpa [Lit.wf,IntKind.min,IntKind.max,IntKind.bits,IntKind.signed]using hn
 refine ⟨n.toNat.toUInt8,?_,trivial⟩;have:((n.toNat.toUInt8).toNat:Int)=n:=by have h1:n.toNat.toUInt8.toNat=n.toNat:=(by simp only [Nat.toUInt8,UInt8.toNat_ofNat'];omega);rw [h1];omega
 unfold vz_;rw [this]
theorem arg_u8s {H:Type} {enc:TypeId×Value->H} {W:World} {base:Nat} {v:Value} {dd:DataW H} {p ps:List MemPlace} (hok:Value.okWide Tryz.prog W .any base 22 v)
  (h:DataW.Trod enc Tryz.prog W 0 (λ_=>true) true 22 v dd p) (hps:∀q,q∈p->q∈ps):∃(l:List UInt8) (a:AV),SlV vz_ 1 l a/\True/\l.length<=maxLen/\Con (j9_ (lk_ W ps)) a v:=by
 rcases uw_ (d:=5) Tryz.underlying22 (by kernel_rfl) hok h hps with rfl|⟨rows,h1,h2,h3,h4⟩;exact ⟨[],.nsl,.inr ⟨rfl,rfl⟩,trivial,Nat.zero_le _,by simp only [Con]⟩;obtain ⟨l,k1,k2,k3⟩:=xP_ (enc:=vz_) (q:=λ_=>True) (λr hr=>zV_ hr) rows h1;have hc:Tryz.prog.cellsOf 5=1:=(by kernel_rfl);refine ⟨l,sf_ vz_ 1 l,.inl rfl,trivial,by omega,?_⟩;have h4':=h4;rw [k1,hc,←k2]at h4';exact h4'
def D9_:GS->List AV
 | .mk op to e thn els nm kd ad args=>[A_ thn,A_ els,.str nm,.int .i64 kd,.int .i64 ad,L_ args]
def GS.e:GS->GX
 | .mk op to e thn els nm kd ad args=>e
def c3:VC:=⟨⟨[],[]⟩,[(12,[none]),(18,[none])],[],0,true,[(13,ft13),(14,ft14),(15,ft15),(16,ft16),(17,zW_)]⟩
def t3:VT:=.call 12 [] 68 [none]<|It Q3 [68] 69 (.done (.bool false))<|Li Ql [64] 70<|It Qc [70,J 200] 71 (.done (.bool true))<|Li Ql [65] 72<|It Qc [72,J 60] 73 (.done (.bool true))<|Cf 13 ft13 [64] 74 3<|It Q3 [77] 78 (.done (.bool true))<|Cf 14 ft14 [65] 79 0<|Cf 15 ft15 [65,J 0] 80 2<|Li Z5 [66] 84<|Li U3 [67,.int .u8 50] 85<|Li Z0 [85] 86<|Cf 16 ft16 [75,76,82,84,86] 87 2<|Li Z5 [66] 94<|Li U3 [67,.int .u8 50] 95<|Li Z0 [95] 96<|Cf 17 zW_ [75,76,82,94,96] 97 2<|It Zc [93,103] 104 (.call 18 [92,102] 105 [none]<|.done (105))<|.done (.bool false)
theorem p3 {l l2:List UInt8} {a a2:AV} (hp:Pk l a) (hp2:Pk l2 a2) (now c:Nat) (hn:now<65536) (hc:c<256):jz_ Tryz.prog 3 [a,a2,.int .u16 (now:Int),.int .u8 (c:Int)] (.bool true):=by
 have hA:=hp.1.ok v1_;have hA2:=hp2.1.ok v1_;refine t7_ (sh:=[none,none,none,none]) (ls:=[a,a2,.int .u16 (now:Int),.int .u8 (c:Int)]) (c:=c3) (n:=300) (t:=t3) mo ov rfl (by simp only [okL,okC,hA,hA2]) rfl (λY _=>vD_ _) rfl (by kernel_rfl) λY hf hg=>?_;unfold t3;refine uH_ k12 rfl rfl (vw_ rfl rfl (vd_ (t:=false) rfl (λh=>by cases h) (λ_=>?_)));refine vw_ (yz_ hp) rfl (vw_ (run_gtr ..) rfl (vd_ rfl (λ_=>uI_ rfl) (λ_=>?_)));refine vw_ (yz_ hp2) rfl (vw_ (run_gtr ..) rfl (vd_ rfl (λ_=>uI_ rfl) (λ_=>?_)));refine b_ (p13 hp) rfl (by simp only [okL,hA]) ⟨?_,trivial⟩;rintro ws ⟨v,b,e,rfl,hv,_,hb⟩;refine vw_ (vr_ ..) rfl (vd_ rfl (λ_=>uI_ rfl) (λh=>?_));obtain ⟨rfl,hbl,hT⟩:=hb (by simpa using h);refine b_ (p14 a2 hA2) rfl (by simp only [okL,hA2]) ⟨?_,trivial⟩;rintro ws rfl;refine b_ (p15 hp2 (Nat.zero_le _)) rfl (by simp only [okL,okC,hA2]) ⟨?_,trivial⟩;rintro ws ⟨mem,n2,rfl,hm,hn2⟩;have hr:(c:Int).tmod 50=((c%50:Nat):Int):=by rw [Int.tmod_eq_emod_of_nonneg (by omega)];rfl
 obtain ⟨r,er⟩:∃r:Nat,r=c%50:=⟨_,rfl⟩;have hr5:r<50:=by omega
 rw [←er]at hr;have hR:∀(t:TypeId) (cx cy:Bool),(XOp.bin .rem t cx cy).run Tryz.prog [.int .u8 (c:Int),.int .u8 50]=some (.int .u8 (r:Int)):=λt cx cy=>by rw [←hr];exact u4_ (by decide) ..
 have hnw: -9223372036854775808<=(now:Int)/\(now:Int)<=9223372036854775807:=by omega
 have h16:=p16 hnw hbl hT VARS rfl hm (left:=(r:Int)) (by omega) (by omega);have h17:=p17 hnw hbl hT VARS rfl hm (mx:=(r:Int)) (by omega) (by omega);have hkk:=I_ (f:=j_ (now:Int) 3) b mem (r:Int) (λs hs m l hm hl=>G_ hnw 3 s (hT s hs) m l hm hl) hm (by omega);have hok:okL [VARS,A_ b,c_ mem,.int .i64 (now:Int),.int .i64 (r:Int)]=true:=by simp only [okL,okC,C_,okB];rfl
 generalize J_ (j_ (now:Int) 3) b mem (r:Int)=res at*;refine vw_ (yn_ now hn) rfl (vw_ (hR _ _ _) rfl (vw_ (yo_ r (by omega)) rfl ?_));refine b_ h16 rfl hok ⟨?_,trivial⟩;rintro ws rfl;refine vw_ (yn_ now hn) rfl (vw_ (hR _ _ _) rfl (vw_ (yo_ r (by omega)) rfl ?_));refine b_ h17 rfl hok ⟨?_,trivial⟩;rintro ws rfl
 (refine a_ rfl rfl ?_ ?_<;>intro h<;>simp only [nc]at h<;>try omega)
 exact uH_ (p18 (l:=res.mem) (by have:=hkk.1.len;omega)) rfl rfl (uI_ rfl)
theorem q3 {now c:Int} (wn:(Lit.int .u16 now).wf=true) (wc:(Lit.int .u8 c).wf=true) {l l2:List UInt8} {a a2:AV} (sl:SlV vz_ 1 l a) (m:l.length<=maxLen) (sl2:SlV vz_ 1 l2 a2) (m2:l2.length<=maxLen):jz_ Tryz.prog 3 [a,a2,.int .u16 now,.int .u8 c] (.bool true):=by
 have hw:0<=c/\c<=255:=by simpa [Lit.wf,IntKind.min,IntKind.max,IntKind.bits,IntKind.signed]using wc
 have hw2:0<=now/\now<=65535:=by simpa [Lit.wf,IntKind.min,IntKind.max,IntKind.bits,IntKind.signed]using wn
 obtain ⟨n,rfl⟩:=Int.eq_ofNat_of_zero_le hw.1;obtain ⟨k,rfl⟩:=Int.eq_ofNat_of_zero_le hw2.1;simp only [maxLen]at m m2;exact p3 ⟨sl,by omega⟩ ⟨sl2,by omega⟩ k n (by omega) (by omega)
end Go.Proofs.YtjconanknjgpnaaGreat.vars
