/-
  What statements do to cells: cp_.
-/
import Derived.Test.YtjconanknjgpnaaGreatFA
import Derived.Test.YtjconanknjgpnaaGreatSzB
import Derived.Test.YtjconanknjgpnaaGreatSyS
set_option maxRecDepth 100000
set_option linter.unusedVariables false
set_option linter.unusedSimpArgs false
namespace Go.Proofs.YtjconanknjgpnaaGreat.vars
open Go Go.Sx
structure RSt where
 mem:List FV
 left:Int
 e:Int
def lP_ (now at_ pt:Int):Int:=if now<=at_ then 0 else min (now-at_) pt
def bv (b:Bool):FV:=⟨1,tI b,some 0⟩
def tv (i:Int):FV:=⟨4,i,some 0⟩
def nv (i:Int):FV:=⟨2,i,some 0⟩
def vG_ (on at_:Int) (inn:Bool) (v now:Int):List FV:=
 if inn=false then [bv false,tv 0,bv false,tv 0]
 else if on=0 then [bv (decide (0=max v 0)),tv 0,bv true,tv now]
 else [bv (decide (lP_ now at_ (max v 0)=max v 0)),tv (lP_ now at_ (max v 0)),bv true,tv at_]
def vF_ (cv was:Int) (inn:Bool) (v:Int):List FV:=
 let c:=if inn=true/\was=0 then min (cv+1) 32767 else cv
 [bv (decide (v<=c)),nv c,bv inn]
def ru_ (was:Int) (inn:Bool):List FV:=[bv (inn&&decide (was=0)),bv inn]
def wB_ (mem:List FV) (at_:Nat) (cs:List FV):List FV:=mem.take at_++(cs++mem.drop (at_+cs.length))
def ci_ (mem:List FV) (n:Nat):Int:=(mem.getD n FV.z).i
def G_ (now kd:Int) (mem:List FV) (inn:Bool) (v:Int):List FV:=
 if kd=6 then wB_ mem 12 (vG_ (ci_ mem 14) (ci_ mem 15) inn v now)
 else if kd=9 then wB_ mem 16 (vF_ (ci_ mem 17) (ci_ mem 18) inn v)
 else wB_ mem 19 (ru_ (ci_ mem 20) inn)
def S_ (mem:List FV):GX->Except Int Int
 | .mk op kd nm fd ad n vk vi vf args=>match f_ mem args with
   | .error e=>.error e
   | .ok l=>if (l.headD FV.z).i<0\/n<=(l.headD FV.z).i then .error 6 else .ok (ad+(l.headD FV.z).i)
def vp_ (to e:GX) (mem:List FV) (left:Int):RSt:=match e_ mem e with
 | .error er=>⟨mem,left,er⟩
 | .ok v=>if to.op=3 then (match S_ mem to with
     | .error er=>⟨mem,left,er⟩
     | .ok a=>⟨mem.set a.toNat v,left,0⟩)
   else ⟨mem.set to.ad.toNat v,left,0⟩
def E_ (now kd:Int) (args:List GX) (mem:List FV) (left:Int):RSt:=match f_ mem args with
 | .error er=>⟨mem,left,er⟩
 | .ok l=>⟨G_ now kd mem (decide ((l.headD FV.z).i≠0)) (l.tail.headD FV.z).i,left,0⟩
def B_ (f:GS->List FV->Int->RSt):List GS->List FV->Int->RSt
 |[],mem,left=>⟨mem,left,0⟩
 |s::r,mem,left=>if (f s mem left).e=0 then B_ f r (f s mem left).mem (f s mem left).left else f s mem left
def v9_ (body:List FV->Int->RSt) (c:List FV->Except Int FV):Nat->List FV->Int->RSt
 |0,mem,left=>⟨mem,left,8⟩
 |n+1,mem,left=>if left-1<0 then ⟨mem,left-1,8⟩else match c mem with
  | .error e=>⟨mem,left-1,e⟩
  | .ok v=>if v.i=0 then ⟨mem,left-1,0⟩else if (body mem (left-1)).e=0 then v9_ body c n (body mem (left-1)).mem (body mem (left-1)).left else body mem (left-1)
def m_ (now:Int):Nat->GS->List FV->Int->RSt
 |0,_,mem,left=>⟨mem,left,8⟩
 |d+1,.mk op to e thn els nm kd ad args,mem,left=>
  if op=1 then vp_ to e mem left
  else if op=2 then (match e_ mem e with
   | .error er=>⟨mem,left,er⟩
   | .ok v=>B_ (m_ now d) (if v.i≠0 then thn else els) mem left)
  else if op=3 then v9_ (B_ (m_ now d) thn) (λm=>e_ m e) (left.toNat+1) mem left
  else E_ now kd args mem left
def Kept (mem:List FV) (left:Int) (r:RSt):Prop:=MemOk r.mem/\(r.e=0\/r.e=5\/r.e=6\/r.e=7\/r.e=8)/\(r.e=0->0<=r.left/\r.left<=left)/\r.mem[0]? =mem[0]? /\r.mem[1]? =mem[1]?
theorem Kept.refl {mem:List FV} (hm:MemOk mem) {left:Int} (h:0<=left):Kept mem left ⟨mem,left,0⟩:=⟨hm,.inl rfl,λ_=>⟨h,Int.le_refl _⟩,rfl,rfl⟩
theorem Kept.err {mem:List FV} (hm:MemOk mem) {left l:Int} {e:Int} (he:e=5\/e=6\/e=7\/e=8):Kept mem left ⟨mem,l,e⟩:=⟨hm,.inr he,λh=>by
 have h:e=0:=h
 omega,rfl,rfl⟩
theorem MemOk.kd {mem:List FV} (h:MemOk mem) {i:Nat} (hi:i<mem.length):mem[i].k=hm_.getD i 0:=by
 rw [←h.1,List.getD_eq_getElem?_getD,List.getElem?_map,List.getElem?_eq_getElem hi]
 rfl
theorem wr_k:∀t∈wrL,2<=t.1/\t.1<21/\hm_.getD t.1.toNat 0=t.2:=by decide
theorem wL_ {mem:List FV} (hm:MemOk mem) {left:Int} (hl:0<=left) {a:Int} {v:FV} (h1:2<=a) (h2:a<21) (hv:TV v) (hk:hm_.getD a.toNat 0=v.k):Kept mem left ⟨mem.set a.toNat v,left,0⟩:=by
 have hlen:=hm.len
 have hi:a.toNat<mem.length:=by omega
 refine ⟨hm.set hi hv (by rw [hm.kd hi,hk]),.inl rfl,λ_=>⟨hl,Int.le_refl _⟩,?_,?_⟩
 .show (mem.set a.toNat v)[0]? =_
  rw [List.getElem?_set_ne (by omega)]
 .show (mem.set a.toNat v)[1]? =_
  rw [List.getElem?_set_ne (by omega)]
theorem vU_ {mem:List FV} {d:Nat} {to:GX} (ht:TX d to) (ho:to.op=3) {a:Int} (h:S_ mem to=.ok a):8<=a/\a<12/\to.kd=2:=by
 obtain ⟨op,kd,nm,fd,ad,n,vk,vi,vf,args⟩:=to
 cases d with
 |zero=>exact ht.elim
 |succ d=>
  obtain ⟨q1,q2,q3,_⟩:=ht.2.2.2.2.1.2.2.1 ho
  simp only [S_]at h
  split at h
  .cases h
  .split at h
   .cases h
   .cases h
    exact ⟨by omega,by omega,q3⟩
theorem xo_ {mem:List FV} {to:GX} {e:Int} (h:S_ mem to=.error e):e=5\/e=6\/e=7\/e=8:=by
 obtain ⟨op,kd,nm,fd,ad,n,vk,vi,vf,args⟩:=to
 simp only [S_]at h
 split at h
 .rename_i e' he
  cases h
  have:=V_ _ _ he
  omega
 .split at h
  .cases h;omega
  .cases h
theorem wh_ {mem:List FV} (hm:MemOk mem) {left:Int} (hl:0<=left) {to e:GX} (ht:TX 5 to) (hw:to.op=2/\(to.ad,to.kd)∈wrL\/to.op=3) (he:TX 6 e) (hk:e.kd=to.kd):Kept mem left (vp_ to e mem left):=by
 unfold vp_
 split
 .rename_i er her
  have:=p_ _ _ her
  exact Kept.err hm (by omega)
 .rename_i v hv
  obtain ⟨tv,vk⟩:=X_ hm 6 e he v hv
  split
  .rename_i h3
   split
   .rename_i er her
    exact Kept.err hm (xo_ her)
   .rename_i a ha
    obtain ⟨p1,p2,p3⟩:=vU_ ht h3 ha
    refine wL_ hm hl (by omega) (by omega) tv ?_
    rw [vk,hk,p3]
    rcases (by omega:a=8\/a=9\/a=10\/a=11)with rfl|rfl|rfl|rfl<;>rfl
  .rename_i h3
   rcases hw with ⟨_,hw⟩|hw
   .obtain ⟨q1,q2,q3⟩:=wr_k _ hw
    exact wL_ hm hl q1 q2 tv (by rw [vk,hk];exact q3)
   .exact absurd hw h3
theorem q1_ {mem:List FV} (h:mem.length=21):∃m0 m1 m2 m3 m4 m5 m6 m7 m8 m9 m10 m11 m12 m13 m14 m15 m16 m17 m18 m19 m20,mem=[m0,m1,m2,m3,m4,m5,m6,m7,m8,m9,m10,m11,m12,m13,m14,m15,m16,m17,m18,m19,m20]:=by
 rcases mem with _|⟨m0,mem⟩;· simp at h
 rcases mem with _|⟨m1,mem⟩;· simp at h
 rcases mem with _|⟨m2,mem⟩;· simp at h
 rcases mem with _|⟨m3,mem⟩;· simp at h
 rcases mem with _|⟨m4,mem⟩;· simp at h
 rcases mem with _|⟨m5,mem⟩;· simp at h
 rcases mem with _|⟨m6,mem⟩;· simp at h
 rcases mem with _|⟨m7,mem⟩;· simp at h
 rcases mem with _|⟨m8,mem⟩;· simp at h
 rcases mem with _|⟨m9,mem⟩;· simp at h
 rcases mem with _|⟨m10,mem⟩;· simp at h
 rcases mem with _|⟨m11,mem⟩;· simp at h
 rcases mem with _|⟨m12,mem⟩;· simp at h
 rcases mem with _|⟨m13,mem⟩;· simp at h
 rcases mem with _|⟨m14,mem⟩;· simp at h
 rcases mem with _|⟨m15,mem⟩;· simp at h
 rcases mem with _|⟨m16,mem⟩;· simp at h
 rcases mem with _|⟨m17,mem⟩;· simp at h
 rcases mem with _|⟨m18,mem⟩;· simp at h
 rcases mem with _|⟨m19,mem⟩;· simp at h
 rcases mem with _|⟨m20,mem⟩;· simp at h
 rcases mem with _|⟨x,mem⟩
 .exact ⟨_,_,_,_,_,_,_,_,_,_,_,_,_,_,_,_,_,_,_,_,_,rfl⟩
 .simp at h
theorem MemOk.of {m0 m1 m2 m3 m4 m5 m6 m7 m8 m9 m10 m11 m12 m13 m14 m15 m16 m17 m18 m19 m20:FV}:MemOk [m0,m1,m2,m3,m4,m5,m6,m7,m8,m9,m10,m11,m12,m13,m14,m15,m16,m17,m18,m19,m20]↔(m0.k=2/\m1.k=1/\m2.k=2/\m3.k=1/\m4.k=2/\m5.k=3/\m6.k=5/\m7.k=4/\m8.k=2/\m9.k=2/\m10.k=2/\m11.k=2/\m12.k=1/\m13.k=4/\m14.k=1/\m15.k=4/\m16.k=1/\m17.k=2/\m18.k=1/\m19.k=1/\m20.k=1)/\(TV m0/\TV m1/\TV m2/\TV m3/\TV m4/\TV m5/\TV m6/\TV m7/\TV m8/\TV m9/\TV m10/\TV m11/\TV m12/\TV m13/\TV m14/\TV m15/\TV m16/\TV m17/\TV m18/\TV m19/\TV m20):=by
 unfold MemOk hm_
 constructor
 .rintro ⟨h1,h2⟩
  refine ⟨by simpa using h1,?_⟩
  simpa using h2
 .rintro ⟨h1,h2⟩
  refine ⟨by simpa using h1,?_⟩
  simpa using h2
theorem qx_ (b:Bool):TV (bv b)/\(bv b).k=1:=⟨⟨uE_ b,λ_=>rfl⟩,rfl⟩
theorem wa_ {i:Int} (h1: -9223372036854775808<=i) (h2:i<=9223372036854775807):TV (tv i)/\(tv i).k=4:=⟨⟨.inr (.inr (.inr (.inl ⟨rfl,h1,h2⟩))),λ_=>rfl⟩,rfl⟩
theorem zy_ {i:Int} (h1: -32768<=i) (h2:i<=32767):TV (nv i)/\(nv i).k=2:=⟨⟨.inr (.inl ⟨rfl,h1,h2⟩),λ_=>rfl⟩,rfl⟩
theorem yy_ {now at_ pt:Int} (h:0<=pt):0<=lP_ now at_ pt/\lP_ now at_ pt<=pt:=by
 unfold lP_
 split<;>omega
theorem x6_ (on at_:Int) (inn:Bool) {v now:Int} (hv:v<=9223372036854775807) (hn: -9223372036854775808<=now/\now<=9223372036854775807) (ha: -9223372036854775808<=at_/\at_<=9223372036854775807):
  ∃a b c d,vG_ on at_ inn v now=[a,b,c,d]/\(TV a/\a.k=1)/\(TV b/\b.k=4)/\(TV c/\c.k=1)/\(TV d/\d.k=4):=by
 unfold vG_
 split
 .exact ⟨_,_,_,_,rfl,qx_ _,wa_ (by omega) (by omega),qx_ _,wa_ (by omega) (by omega)⟩
 .split
  .exact ⟨_,_,_,_,rfl,qx_ _,wa_ (by omega) (by omega),qx_ _,wa_ hn.1 hn.2⟩
  .have:=yy_ (now:=now) (at_:=at_) (pt:=max v 0) (by omega)
   exact ⟨_,_,_,_,rfl,qx_ _,wa_ (by omega) (by omega),qx_ _,wa_ ha.1 ha.2⟩
theorem xv_ {cv:Int} (was:Int) (inn:Bool) (v:Int) (hc: -32768<=cv/\cv<=32767):∃a b c,vF_ cv was inn v=[a,b,c]/\(TV a/\a.k=1)/\(TV b/\b.k=2)/\(TV c/\c.k=1):=by
 refine ⟨_,_,_,rfl,qx_ _,zy_ ?_ ?_,qx_ _⟩
 .split<;>omega
 .split<;>omega
theorem xe_ {kd ad:Int} {ks:List Int} (hb:Blk kd ad ks) {mem:List FV} (hm:MemOk mem) (inn:Bool) {v now:Int} (hv:v<=9223372036854775807) (hn: -9223372036854775808<=now/\now<=9223372036854775807):
  MemOk (G_ now kd mem inn v)/\(G_ now kd mem inn v)[0]? =mem[0]? /\(G_ now kd mem inn v)[1]? =mem[1]? :=by
 obtain ⟨m0,m1,m2,m3,m4,m5,m6,m7,m8,m9,m10,m11,m12,m13,m14,m15,m16,m17,m18,m19,m20,rfl⟩:=q1_ hm.len
 have hm':=MemOk.of.1 hm
 obtain ⟨⟨k0,k1,k2,k3,k4,k5,k6,k7,k8,k9,k10,k11,k12,k13,k14,k15,k16,k17,k18,k19,k20⟩,t0,t1,t2,t3,t4,t5,t6,t7,t8,t9,t10,t11,t12,t13,t14,t15,t16,t17,t18,t19,t20⟩:=hm'
 rcases hb with ⟨rfl,_⟩|⟨rfl,_⟩|⟨rfl,_⟩
 .have ha:=t15.1.i64
  obtain ⟨a,b,c,d,e,⟨ta,ka⟩,⟨tb,kb⟩,⟨tc,kc⟩,td,kd'⟩:=x6_ m14.i m15.i inn hv hn ha
  have e2:G_ now 6 [m0,m1,m2,m3,m4,m5,m6,m7,m8,m9,m10,m11,m12,m13,m14,m15,m16,m17,m18,m19,m20] inn v=[m0,m1,m2,m3,m4,m5,m6,m7,m8,m9,m10,m11,a,b,c,d,m16,m17,m18,m19,m20]:=by
   show wB_ _ 12 (vG_ m14.i m15.i inn v now)=_
   rw [e]
   rfl
  rw [e2]
  exact ⟨MemOk.of.2 ⟨⟨k0,k1,k2,k3,k4,k5,k6,k7,k8,k9,k10,k11,ka,kb,kc,kd',k16,k17,k18,k19,k20⟩,t0,t1,t2,t3,t4,t5,t6,t7,t8,t9,t10,t11,ta,tb,tc,td,t16,t17,t18,t19,t20⟩,rfl,rfl⟩
 .have hc: -32768<=m17.i/\m17.i<=32767:=by
    rcases t17.1 with q|q|q|q|q<;>omega
  obtain ⟨a,b,c,e,⟨ta,ka⟩,⟨tb,kb⟩,tc,kc⟩:=xv_ m18.i inn v hc
  have e2:G_ now 9 [m0,m1,m2,m3,m4,m5,m6,m7,m8,m9,m10,m11,m12,m13,m14,m15,m16,m17,m18,m19,m20] inn v=[m0,m1,m2,m3,m4,m5,m6,m7,m8,m9,m10,m11,m12,m13,m14,m15,a,b,c,m19,m20]:=by
   show wB_ _ 16 (vF_ m17.i m18.i inn v)=_
   rw [e]
   rfl
  rw [e2]
  exact ⟨MemOk.of.2 ⟨⟨k0,k1,k2,k3,k4,k5,k6,k7,k8,k9,k10,k11,k12,k13,k14,k15,ka,kb,kc,k19,k20⟩,t0,t1,t2,t3,t4,t5,t6,t7,t8,t9,t10,t11,t12,t13,t14,t15,ta,tb,tc,t19,t20⟩,rfl,rfl⟩
 .have ⟨ta,ka⟩:=qx_ (inn&&decide (m20.i=0))
  have ⟨tb,kb⟩:=qx_ inn
  have e2:G_ now 11 [m0,m1,m2,m3,m4,m5,m6,m7,m8,m9,m10,m11,m12,m13,m14,m15,m16,m17,m18,m19,m20] inn v=[m0,m1,m2,m3,m4,m5,m6,m7,m8,m9,m10,m11,m12,m13,m14,m15,m16,m17,m18,bv (inn&&decide (m20.i=0)),bv inn]:=rfl
  rw [e2]
  exact ⟨MemOk.of.2 ⟨⟨k0,k1,k2,k3,k4,k5,k6,k7,k8,k9,k10,k11,k12,k13,k14,k15,k16,k17,k18,ka,kb⟩,t0,t1,t2,t3,t4,t5,t6,t7,t8,t9,t10,t11,t12,t13,t14,t15,t16,t17,t18,ta,tb⟩,rfl,rfl⟩
theorem Kept.then {mem:List FV} {left:Int} {r q:RSt} (h:Kept mem left r) (h0:r.e=0) (h2:Kept r.mem r.left q):Kept mem left q:=by
 obtain ⟨a1,a2,a3,a4,a5⟩:=h
 obtain ⟨b1,b2,b3,b4,b5⟩:=h2
 exact ⟨b1,b2,λh=>⟨(b3 h).1,Int.le_trans (b3 h).2 (a3 h0).2⟩,b4.trans a4,b5.trans a5⟩
theorem P_ {f:GS->List FV->Int->RSt}:∀(l:List GS) (mem:List FV) (left:Int),(∀s∈l,∀mem left,MemOk mem->0<=left->Kept mem left (f s mem left))->MemOk mem->0<=left->Kept mem left (B_ f l mem left)
 |[],mem,left,_,hm,hl=>Kept.refl hm hl
 |s::r,mem,left,hf,hm,hl=>by
  have h1:=hf s List.mem_cons_self mem left hm hl
  unfold B_
  split
  .rename_i h0
   exact h1.then h0 (P_ r _ _ (λt ht=>hf t (List.mem_cons_of_mem _ ht)) h1.1 (h1.2.2.1 h0).1)
  .exact h1
theorem wf_ {body:List FV->Int->RSt} {c:List FV->Except Int FV} (hb:∀mem left,MemOk mem->0<=left->Kept mem left (body mem left)) (hc:∀mem e,c mem=.error e->e=5\/e=6\/e=7):
  ∀(n:Nat) (mem:List FV) (left:Int),MemOk mem->0<=left->Kept mem left (v9_ body c n mem left)
 |0,mem,left,hm,hl=>Kept.err hm (by omega)
 |n+1,mem,left,hm,hl=>by
  unfold v9_
  split
  .exact Kept.err hm (by omega)
  .rename_i h1
   split
   .rename_i e he
    have:=hc _ _ he
    exact Kept.err hm (by omega)
   .split
    .exact ⟨hm,.inl rfl,λ_=>⟨by show 0<=left-1;omega,by show left-1<=left;omega⟩,rfl,rfl⟩
    .have hb1:=hb mem (left-1) hm (by omega)
     have hb1:Kept mem left (body mem (left-1)):=⟨hb1.1,hb1.2.1,λh=>⟨(hb1.2.2.1 h).1,by have:=(hb1.2.2.1 h).2;omega⟩,hb1.2.2.2⟩
     split
     .rename_i h0
      exact hb1.then h0 (wf_ hb hc n _ _ hb1.1 (hb1.2.2.1 h0).1)
     .exact hb1
theorem uX_ {mem:List FV} (hm:MemOk mem) {args:List GX} (ha:∀a∈args,TX 5 a) {l:List FV} (h:f_ mem args=.ok l):(l.tail.headD FV.z).i<=9223372036854775807/\ -9223372036854775808<=(l.tail.headD FV.z).i:=by
 have hV:=ut_ (X_ hm 5) args ha l h
 match l,hV with
 |[],_=>exact ⟨by show (0:Int)<=_;omega,by show _<=(0:Int);omega⟩
 |[a],_=>exact ⟨by show (0:Int)<=_;omega,by show _<=(0:Int);omega⟩
 |a::b::r,hV=>
  have:=(hV.2 b (List.mem_cons_of_mem _ List.mem_cons_self)).1.i64
  exact ⟨this.2,this.1⟩
theorem Y_ {now:Int} (hn: -9223372036854775808<=now/\now<=9223372036854775807):∀(d:Nat) (s:GS),TS d s->∀(mem:List FV) (left:Int),MemOk mem->0<=left->Kept mem left (m_ now d s mem left)
 |0,_,h,_,_,_,_=>h.elim
 |d+1,.mk op to e thn els nm kd ad args,h,mem,left,hm,hl=>by
  have ih:=Y_ hn d
  rcases h with ⟨h1,h2,h3,h4,h5,_⟩|⟨h1,h2,h3,h4,h5,h6,h7⟩|⟨h1,h2,h3,_⟩
  .unfold m_
   rw [if_pos h1]
   exact wh_ hm hl h2 h3 h4 h5
  .unfold m_
   rw [if_neg (by omega)]
   split
   .split
    .rename_i er her
     have:=p_ _ _ her
     exact Kept.err hm (by omega)
    .rename_i v hv
     refine P_ _ mem left (λs hs=>?_) hm hl
     split at hs
     .exact ih s (h6 s hs)
     .exact ih s (h7 s hs)
   .rw [if_pos (by omega)]
    exact wf_ (λm l hm hl=>P_ thn m l (λs hs=>ih s (h6 s hs)) hm hl) (λm e' he=>p_ _ _ he) _ _ _ hm hl
  .unfold m_
   rw [if_neg (by omega),if_neg (by omega),if_neg (by omega)]
   unfold E_
   split
   .rename_i er her
    have:=V_ _ _ her
    exact Kept.err hm (by omega)
   .rename_i l hl'
    have hv:=uX_ hm h3 hl'
    obtain ⟨b1,b2,b3⟩:=xe_ (now:=now) h2 hm (decide ((l.headD FV.z).i≠0)) hv.1 hn
    exact ⟨b1,.inl rfl,λ_=>⟨hl,Int.le_refl _⟩,b2,b3⟩
def Bi_:VC:=⟨⟨[],[]⟩,[],[],0,true,[]⟩
def Ax_:VT:=
 (.ite 64
 (.done (.agg [J 1,J 1,.flt .f64 0]))
 (.done (.agg [J 1,J 0,.flt .f64 0])))
def Bj_:VC:=⟨⟨[],[]⟩,[],[],0,true,[]⟩
def Ay_:VT:=
 (.ite 64
 (.done (.agg [J 1,J 1,.flt .f64 0]))
 (.done (.agg [J 1,J 0,.flt .f64 0])))
def zD_:VC:=⟨⟨[],[]⟩,[(174,[(some 3)])],[],1,true,[]⟩
def yS_:VT:=
 (.lt Qj [100,J 1] 130 none
 (.lt Q3 [130] 131 none
 (.ite 131
 (.done (.tup [J 0,100,101,102,103,104,105,106,107,108,109,110,111]))
 (.lt Qj [103,J 4] 132 none
 (.lt Q3 [132] 133 none
 (.ite 133
 (.done (.tup [J 0,100,101,102,103,104,105,106,107,108,109,110,111]))
 (.lt Qj [106,J 1] 134 none
 (.lt Q3 [134] 135 none
 (.ite 135
 (.done (.tup [J 0,100,101,102,103,104,105,106,107,108,109,110,111]))
 (.lt Qj [109,J 4] 136 none
 (.lt Q3 [136] 137 none
 (.ite 137
 (.done (.tup [J 0,100,101,102,103,104,105,106,107,108,109,110,111]))
 (.lt Q8 [101,J 0] 138 none
 (.lt Q8 [107,J 0] 139 none
 (.lt (.mm true) [128,J 0] 140 none
 (.lt Q3 [127] 141 none
 (.ite 141
 (.done (.tup [J 0,J 1,J 0,.flt .f64 0,J 4,J 0,.flt .f64 0,J 1,J 0,.flt .f64 0,J 4,J 0,.flt .f64 0]))
 (.lt Q3 [139] 142 none
 (.ite 142
 (.lt Uf [129,129] 143 none
 (.ite 143
 (.lt Qx [129] 144 none
 (.lt Qx [129] 145 none
 (.lt Zs [144,145] 146 none
 (.lt Qx [140] 147 none
 (.lt Zt [146,147] 148 none
 (.lt Zu [148] 149 none
 (.lt Ql [149,140] 150 none
 (.call 174 [150] 151 [(some 3)]
 (.call 174 [.bool true] 154 [(some 3)]
 (.done (.tup [J 0,151,152,153,J 4,149,.flt .f64 0,154,155,156,J 4,129,.flt .f64 0])))))))))))
 (.lt Ql [J 0,140] 144 none
 (.call 174 [144] 145 [(some 3)]
 (.call 174 [.bool true] 148 [(some 3)]
 (.done (.tup [J 0,145,146,147,J 4,J 0,.flt .f64 0,148,149,150,J 4,129,.flt .f64 0])))))))
 (.lt Uf [129,110] 143 none
 (.ite 143
 (.lt Qx [129] 144 none
 (.lt Qx [110] 145 none
 (.lt Zs [144,145] 146 none
 (.lt Qx [140] 147 none
 (.lt Zt [146,147] 148 none
 (.lt Zu [148] 149 none
 (.lt Ql [149,140] 150 none
 (.call 174 [150] 151 [(some 3)]
 (.call 174 [139] 154 [(some 3)]
 (.done (.tup [J 0,151,152,153,J 4,149,.flt .f64 0,154,155,156,J 4,110,.flt .f64 0])))))))))))
 (.lt Ql [J 0,140] 144 none
 (.call 174 [144] 145 [(some 3)]
 (.call 174 [139] 148 [(some 3)]
 (.done (.tup [J 0,145,146,147,J 4,J 0,.flt .f64 0,148,149,150,J 4,110,.flt .f64 0]))))))))))))))))))))))))))
def zE_:VC:=⟨⟨[],[]⟩,[(176,[(some 3)])],[],1,true,[]⟩
def yT_:VT:=
 (.lt Qj [112,J 1] 129 none
 (.lt Q3 [129] 130 none
 (.ite 130
 (.done (.tup [J 0,112,113,114,115,116,117,118,119,120]))
 (.lt Qj [115,J 2] 131 none
 (.lt Q3 [131] 132 none
 (.ite 132
 (.done (.tup [J 0,112,113,114,115,116,117,118,119,120]))
 (.lt Qj [118,J 1] 133 none
 (.lt Q3 [133] 134 none
 (.ite 134
 (.done (.tup [J 0,112,113,114,115,116,117,118,119,120]))
 (.ite 127
 (.lt Qt [119,J 0] 135 none
 (.ite 135
 (.lt Ug [116,J 1] 136 none
 (.lt Zt [136,J 32767] 137 none
 (.lt Qq [137,128] 138 none
 (.call 176 [138] 139 [(some 3)]
 (.call 176 [.bool true] 142 [(some 3)]
 (.done (.tup [J 0,139,140,141,J 2,137,.flt .f64 0,142,143,144])))))))
 (.lt Qq [116,128] 136 none
 (.call 176 [136] 137 [(some 3)]
 (.call 176 [.bool true] 140 [(some 3)]
 (.done (.tup [J 0,137,138,139,J 2,116,.flt .f64 0,140,141,142])))))))
 (.lt Qq [116,128] 135 none
 (.call 176 [135] 136 [(some 3)]
 (.call 176 [.bool false] 139 [(some 3)]
 (.done (.tup [J 0,136,137,138,J 2,116,.flt .f64 0,139,140,141])))))))))))))))
def zF_:VC:=⟨⟨[],[]⟩,[(176,[(some 3)])],[],1,true,[]⟩
def yU_:VT:=
 (.lt Qj [121,J 1] 129 none
 (.lt Q3 [129] 130 none
 (.ite 130
 (.done (.tup [J 0,121,122,123,124,125,126]))
 (.lt Qj [124,J 1] 131 none
 (.lt Q3 [131] 132 none
 (.ite 132
 (.done (.tup [J 0,121,122,123,124,125,126]))
 (.lt Q8 [125,J 0] 133 none
 (.lt (.bin .neq 4 false false) [127,133] 134 none
 (.ite 134
 (.lt Uh [127,.bool true] 135 none
 (.call 176 [135] 136 [(some 3)]
 (.call 176 [127] 139 [(some 3)]
 (.done (.tup [J 0,136,137,138,139,140,141])))))
 (.call 176 [.bool false] 135 [(some 3)]
 (.call 176 [127] 138 [(some 3)]
 (.done (.tup [J 0,135,136,137,138,139,140])))))))))))))
theorem xn_ (b:Bool):jA_ Tryz.prog 174 [.bool b] (.agg (g_ (bv b))):=by
 refine t8_ (sh:=[none]) (ls:=[.bool b]) (c:=Bi_) (n:=300) (t:=Ax_) mo ov rfl rfl rfl (λY _=>vE_ _) rfl (by kernel_rfl) λY hf hg=>?_
 unfold Ax_
 cases b
 .exact ve_ (t:=false) rfl (λh=>by cases h) (λh=>uJ_ rfl)
 .exact ve_ (t:=true) rfl (λh=>uJ_ rfl) (λh=>by cases h)
theorem uu_ (b:Bool):jA_ Tryz.prog 176 [.bool b] (.agg (g_ (bv b))):=by
 refine t8_ (sh:=[none]) (ls:=[.bool b]) (c:=Bj_) (n:=300) (t:=Ay_) mo ov rfl rfl rfl (λY _=>vE_ _) rfl (by kernel_rfl) λY hf hg=>?_
 unfold Ay_
 cases b
 .exact ve_ (t:=false) rfl (λh=>by cases h) (λh=>uJ_ rfl)
 .exact ve_ (t:=true) rfl (λh=>uJ_ rfl) (λh=>by cases h)
def RBk (cs:List FV):Nat->List AV->Prop:=λ_ ws=>ws=bA_ g_ cs
theorem vK_ {cs:List FV} {hv:List AV} {Y:Sy} {L:List (Nat->List AV->Prop)} (h:ab_ Y.v hv=bA_ g_ cs):VOK Tryz.prog (QF (RBk cs)) L Y (.done (.tup (.int .i64 0::hv))):=
 VOK_fin (j:=0) (by rw [h];exact oL_ okV cs) h
theorem L_ {m:FV} {k:Int} (ht:TV m) (hk:m.k=k) (h5:k≠5):∃i,m=⟨k,i,some 0⟩/\InK k i:=by
 obtain ⟨k',i,f⟩:=m
 have hk:k'=k:=hk
 subst hk
 have hf:f=some 0:=ht.2 h5
 subst hf
 exact ⟨i,rfl,ht.1⟩
theorem cvU (x:Int):(XOp.conv 2 101).run Tryz.prog [.int .i64 x]=some (.int .u64 (IntKind.u64.wrap x)):=tH_ Tryz.underlying2 Tryz.underlying101 x
theorem Bp_ (x:Int) (h1:0<=x) (h2:x<=9223372036854775807):(XOp.conv 101 2).run Tryz.prog [.int .u64 x]=some (.int .i64 x):=by
 rw [tH_ Tryz.underlying101 Tryz.underlying2,vM_ (by omega) (by omega)]
theorem AA_ {x:Int} (h1:0<=x) (h2:x<=9223372036854775807):IntKind.u64.wrap x=x:=by
 simp [IntKind.wrap,IntKind.bits,IntKind.signed];omega
theorem BN_ {a b:Int} (h1:0<=a-b) (h2:a-b<=18446744073709551615):IntKind.u64.wrap (IntKind.u64.wrap a-IntKind.u64.wrap b)=a-b:=by
 simp [IntKind.wrap,IntKind.bits,IntKind.signed];omega
theorem z3_ {mem:List FV} (hm:MemOk mem) (inn:Bool) {v now:Int} (hv: -9223372036854775808<=v/\v<=9223372036854775807) (hn: -9223372036854775808<=now/\now<=9223372036854775807):
  CF Tryz.prog 115 xD_ (bA_ g_ mem++[.bool inn,.int .i64 v,.int .i64 now]) (RBk (vG_ (ci_ mem 14) (ci_ mem 15) inn v now)):=by
 obtain ⟨m0,m1,m2,m3,m4,m5,m6,m7,m8,m9,m10,m11,m12,m13,m14,m15,m16,m17,m18,m19,m20,rfl⟩:=q1_ hm.len
 have hm':=MemOk.of.1 hm
 obtain ⟨⟨k0,k1,k2,k3,k4,k5,k6,k7,k8,k9,k10,k11,k12,k13,k14,k15,k16,k17,k18,k19,k20⟩,t0,t1,t2,t3,t4,t5,t6,t7,t8,t9,t10,t11,t12,t13,t14,t15,t16,t17,t18,t19,t20⟩:=hm'
 obtain ⟨i12,rfl,h12⟩:=L_ t12 k12 (by decide)
 obtain ⟨i13,rfl,h13⟩:=L_ t13 k13 (by decide)
 obtain ⟨i14,rfl,h14⟩:=L_ t14 k14 (by decide)
 obtain ⟨i15,rfl,h15⟩:=L_ t15 k15 (by decide)
 show CF Tryz.prog 115 xD_ _ (RBk (vG_ i14 i15 inn v now))
 have ha:=h15.i64
 refine vh_ (c:=zD_) (n:=300) (t:=yS_) mo ov rfl (λY _=>vE_ _) (by kernel_rfl) λY hf hg=>?_
 unfold yS_
 refine vx_ (r:=.bool true) rfl rfl (vx_ (r:=.bool false) rfl rfl (ve_ (t:=false) rfl (λh=>by cases h) (λ_=>?_)))
 refine vx_ (r:=.bool true) rfl rfl (vx_ (r:=.bool false) rfl rfl (ve_ (t:=false) rfl (λh=>by cases h) (λ_=>?_)))
 refine vx_ (r:=.bool true) rfl rfl (vx_ (r:=.bool false) rfl rfl (ve_ (t:=false) rfl (λh=>by cases h) (λ_=>?_)))
 refine vx_ (r:=.bool true) rfl rfl (vx_ (r:=.bool false) rfl rfl (ve_ (t:=false) rfl (λh=>by cases h) (λ_=>?_)))
 refine vx_ (run_neq ..) rfl (vx_ (run_neq ..) rfl (vx_ (r:=.int .i64 (max v 0)) rfl rfl (vx_ (vs_ ..) rfl ?_)))
 cases inn with
 |false=>exact ve_ (t:=true) rfl (λ_=>vK_ rfl) (λh=>by cases h)
 |true=>
  refine ve_ (t:=false) rfl (λh=>by cases h) (λ_=>vx_ (vs_ ..) rfl (ve_ rfl (λh=>?_) (λh=>?_)))
  .have h0:i14=0:=by simpa using h
   have e:vG_ i14 i15 true v now=[bv (decide (0=max v 0)),tv 0,bv true,tv now]:=by
    unfold vG_;rw [if_neg (by decide),if_pos h0]
   rw [e]
   (refine b_ rfl rfl ?_ ?_<;>intro h<;>simp only [nc]at h<;>try (exfalso;omega))
   exact vx_ (run_eql ..) rfl (uI_ (xn_ _) rfl rfl (uI_ (xn_ true) rfl rfl (vK_ rfl)))
  .have h0:i14≠0:=by simpa using h
   have e139:(!decide (i14=0))=true:=by simpa using h0
   have e:vG_ i14 i15 true v now=[bv (decide (lP_ now i15 (max v 0)=max v 0)),tv (lP_ now i15 (max v 0)),bv (!decide (i14=0)),tv i15]:=by
    unfold vG_;rw [if_neg (by decide),if_neg h0,e139]
   rw [e]
   (refine b_ rfl rfl ?_ ?_<;>intro h<;>simp only [nc]at h<;>try (exfalso;omega))
   .have hp:lP_ now i15 (max v 0)=min (now-i15) (max v 0):=by unfold lP_;rw [if_neg (by omega)]
    rw [hp]
    refine vx_ (cvU now) rfl (vx_ (cvU i15) rfl (vx_ (run_sub ..) rfl ?_))
    rw [BN_ (by omega) (by omega)]
    refine vx_ (cvU _) rfl ?_
    rw [AA_ (x:=max v 0) (by omega) (by omega)]
    refine vx_ (r:=.int .u64 (min (now-i15) (max v 0))) rfl rfl (vx_ (Bp_ _ (by omega) (by omega)) rfl (vx_ (run_eql ..) rfl (uI_ (xn_ _) rfl rfl (uI_ (xn_ (!decide (i14=0))) rfl rfl (vK_ rfl)))))
   .have hp:lP_ now i15 (max v 0)=0:=by unfold lP_;rw [if_pos (by omega)]
    rw [hp]
    exact vx_ (run_eql ..) rfl (uI_ (xn_ _) rfl rfl (uI_ (xn_ (!decide (i14=0))) rfl rfl (vK_ rfl)))
theorem z4_ {mem:List FV} (hm:MemOk mem) (inn:Bool) (v:Int):
  CF Tryz.prog 116 xB_ (bA_ g_ mem++[.bool inn,.int .i64 v]) (RBk (vF_ (ci_ mem 17) (ci_ mem 18) inn v)):=by
 obtain ⟨m0,m1,m2,m3,m4,m5,m6,m7,m8,m9,m10,m11,m12,m13,m14,m15,m16,m17,m18,m19,m20,rfl⟩:=q1_ hm.len
 have hm':=MemOk.of.1 hm
 obtain ⟨⟨k0,k1,k2,k3,k4,k5,k6,k7,k8,k9,k10,k11,k12,k13,k14,k15,k16,k17,k18,k19,k20⟩,t0,t1,t2,t3,t4,t5,t6,t7,t8,t9,t10,t11,t12,t13,t14,t15,t16,t17,t18,t19,t20⟩:=hm'
 obtain ⟨i16,rfl,h16⟩:=L_ t16 k16 (by decide)
 obtain ⟨i17,rfl,h17⟩:=L_ t17 k17 (by decide)
 obtain ⟨i18,rfl,h18⟩:=L_ t18 k18 (by decide)
 show CF Tryz.prog 116 xB_ _ (RBk (vF_ i17 i18 inn v))
 have hc: -32768<=i17/\i17<=32767:=by rcases h17 with q|q|q|q|q<;>omega
 refine vh_ (c:=zE_) (n:=300) (t:=yT_) mo ov rfl (λY _=>vE_ _) (by kernel_rfl) λY hf hg=>?_
 unfold yT_
 refine vx_ (r:=.bool true) rfl rfl (vx_ (r:=.bool false) rfl rfl (ve_ (t:=false) rfl (λh=>by cases h) (λ_=>?_)))
 refine vx_ (r:=.bool true) rfl rfl (vx_ (r:=.bool false) rfl rfl (ve_ (t:=false) rfl (λh=>by cases h) (λ_=>?_)))
 refine vx_ (r:=.bool true) rfl rfl (vx_ (r:=.bool false) rfl rfl (ve_ (t:=false) rfl (λh=>by cases h) (λ_=>?_)))
 cases inn with
 |false=>
  have e:vF_ i17 i18 false v=[bv (decide (v<=i17)),nv i17,bv false]:=rfl
  rw [e]
  exact ve_ (t:=false) rfl (λh=>by cases h) (λ_=>vx_ (run_geq ..) rfl (uI_ (uu_ _) rfl rfl (uI_ (uu_ false) rfl rfl (vK_ rfl))))
 |true=>
  refine ve_ (t:=true) rfl (λ_=>?_) (λh=>by cases h)
  (refine b_ rfl rfl ?_ ?_<;>intro h<;>simp only [nc]at h<;>try (exfalso;omega))
  .have e:vF_ i17 i18 true v=[bv (decide (v<=min (i17+1) 32767)),nv (min (i17+1) 32767),bv true]:=by
     unfold vF_;rw [if_pos ⟨rfl,h⟩]
   rw [e]
   refine vx_ (h_ (x:=i17) (y:=1) (by omega) (by omega)) rfl (vx_ (r:=.int .i64 (min (i17+1) 32767)) rfl rfl (vx_ (run_geq ..) rfl (uI_ (uu_ _) rfl rfl (uI_ (uu_ true) rfl rfl (vK_ rfl)))))
  .have e:vF_ i17 i18 true v=[bv (decide (v<=i17)),nv i17,bv true]:=by
     unfold vF_;rw [if_neg (λq=>h q.2)]
   rw [e]
   exact vx_ (run_geq ..) rfl (uI_ (uu_ _) rfl rfl (uI_ (uu_ true) rfl rfl (vK_ rfl)))
theorem z5_ {mem:List FV} (hm:MemOk mem) (inn:Bool) (v:Int):
  CF Tryz.prog 116 xC_ (bA_ g_ mem++[.bool inn,.int .i64 v]) (RBk (ru_ (ci_ mem 20) inn)):=by
 obtain ⟨m0,m1,m2,m3,m4,m5,m6,m7,m8,m9,m10,m11,m12,m13,m14,m15,m16,m17,m18,m19,m20,rfl⟩:=q1_ hm.len
 have hm':=MemOk.of.1 hm
 obtain ⟨⟨k0,k1,k2,k3,k4,k5,k6,k7,k8,k9,k10,k11,k12,k13,k14,k15,k16,k17,k18,k19,k20⟩,t0,t1,t2,t3,t4,t5,t6,t7,t8,t9,t10,t11,t12,t13,t14,t15,t16,t17,t18,t19,t20⟩:=hm'
 obtain ⟨i19,rfl,h19⟩:=L_ t19 k19 (by decide)
 obtain ⟨i20,rfl,h20⟩:=L_ t20 k20 (by decide)
 show CF Tryz.prog 116 xC_ _ (RBk (ru_ i20 inn))
 refine vh_ (c:=zF_) (n:=300) (t:=yU_) mo ov rfl (λY _=>vE_ _) (by kernel_rfl) λY hf hg=>?_
 unfold yU_
 refine vx_ (r:=.bool true) rfl rfl (vx_ (r:=.bool false) rfl rfl (ve_ (t:=false) rfl (λh=>by cases h) (λ_=>?_)))
 refine vx_ (r:=.bool true) rfl rfl (vx_ (r:=.bool false) rfl rfl (ve_ (t:=false) rfl (λh=>by cases h) (λ_=>?_)))
 refine vx_ (run_neq ..) rfl ?_
 cases inn with
 |false=>
  have e:ru_ i20 false=[bv false,bv false]:=rfl
  rw [e]
  by_cases h0:i20=0
  .subst h0
   exact vx_ (r:=.bool false) rfl rfl (ve_ (t:=false) rfl (λh=>by cases h) (λ_=>uI_ (uu_ false) rfl rfl (uI_ (uu_ false) rfl rfl (vK_ rfl))))
  .have e1:(!decide (i20=0))=true:=by simpa using h0
   refine vx_ (r:=.bool true) (by show (XOp.bin .neq 4 false false).run Tryz.prog [.bool false,.bool (!decide (i20=0))]=_;rw [e1];rfl) rfl (ve_ (t:=true) rfl (λ_=>?_) (λh=>by cases h))
   exact vx_ (r:=.bool false) rfl rfl (uI_ (uu_ false) rfl rfl (uI_ (uu_ false) rfl rfl (vK_ rfl)))
 |true=>
  by_cases h0:i20=0
  .subst h0
   have e:ru_ 0 true=[bv true,bv true]:=rfl
   rw [e]
   exact vx_ (r:=.bool true) rfl rfl (ve_ (t:=true) rfl (λ_=>vx_ (r:=.bool true) rfl rfl (uI_ (uu_ true) rfl rfl (uI_ (uu_ true) rfl rfl (vK_ rfl)))) (λh=>by cases h))
  .have e:ru_ i20 true=[bv false,bv true]:=by unfold ru_;rw [decide_eq_false h0];rfl
   rw [e]
   have e1:(!decide (i20=0))=true:=by simpa using h0
   refine vx_ (r:=.bool false) (by show (XOp.bin .neq 4 false false).run Tryz.prog [.bool true,.bool (!decide (i20=0))]=_;rw [e1];rfl) rfl (ve_ (t:=false) rfl (λh=>by cases h) (λ_=>?_))
   exact uI_ (uu_ false) rfl rfl (uI_ (uu_ true) rfl rfl (vK_ rfl))
def c73:VC:=⟨⟨[],[]⟩,[],[],2,true,[(49,et_),(81,xi_)]⟩
def t73:VT:=
 (.callF 49 et_ [64,65,66,78,79,80,81,82,83,84,85,86,87] 94
 (.cons 3
 (.lt Q0 [68,J 3] 110 none
 (.ite 110
 (.callF 81 xi_ [64,65,66,68,69,70,71,72,73,74,75,76,77] 111
 (.cons 1
 (.lt Q1 [64,124] 125 none
 (.lt Z9 [64,125,.agg [107,108,109]] 126 none
 (.chk (.same 64 126)
 (.chk (.nn 126)
 (.done (.tup [J 0,126,66]))))))
 (.cons 1
 (.chk (.nn 64)
 (.done (.tup [J 1,64,66,124])))
 .nil)))
 (.lt Q1 [64,72] 111 none
 (.lt Z9 [64,111,.agg [107,108,109]] 112 none
 (.chk (.same 64 112)
 (.chk (.nn 112)
 (.done (.tup [J 0,112,66]))))))))
 (.cons 1
 (.chk (.nn 64)
 (.done (.tup [J 1,64,66,107])))
 .nil)))
def c74:VC:=⟨⟨[],[]⟩,[],[(0,[⟨[(0,.ptr 0 0),(3,.ptr 2 0)],[(0,[.slx 1 3 0,65,.slx 1 0 0]),(2,[67,68,69,70,71,72,73,74,75,76,77,78,79,80,81,82,83,84,85,86,87,88,89,90,91,92,93])],3,2,[⟨1,3,0,0,(some 0)⟩],[],[]⟩])],2,true,[(113,ft113),(49,et_),(43,vN_)]⟩
def t74:VT:=
 (.chk (.nn 64)
 (.loop 94 0 [64,66]
 (.cons 2
 (.lt Qf [95,J 1] 96 none
 (.lt Z3 [96,J 0] 97 none
 (.ite 97
 (.callF 113 ft113 [J 8] 98
 (.cons 0
 (.callF 49 et_ [94,65,96,78,79,80,81,82,83,84,85,86,87] 99
 (.cons 3
 (.lt Qt [113,J 0] 115 none
 (.ite 115
 (.chk (.nn 94)
 (.done (.tup [J 0,94,96])))
 (.callF 43 vN_ [94,65,96,88] 116
 (.cons 2
 (.chk (.nn 120)
 (.again 0 0 [120,121]))
 (.cons 3
 (.chk (.nn 120)
 (.done (.tup [J 1,120,121,122])))
 .nil)))))
 (.cons 1
 (.chk (.nn 94)
 (.done (.tup [J 1,94,96,112])))
 .nil)))
 (.cons 1
 (.chk (.nn 94)
 (.done (.tup [J 1,94,96,99])))
 .nil)))
 (.callF 49 et_ [94,65,96,78,79,80,81,82,83,84,85,86,87] 98
 (.cons 3
 (.lt Qt [112,J 0] 114 none
 (.ite 114
 (.chk (.nn 94)
 (.done (.tup [J 0,94,96])))
 (.callF 43 vN_ [94,65,96,88] 115
 (.cons 2
 (.chk (.nn 119)
 (.again 0 0 [119,120]))
 (.cons 3
 (.chk (.nn 119)
 (.done (.tup [J 1,119,120,121])))
 .nil)))))
 (.cons 1
 (.chk (.nn 94)
 (.done (.tup [J 1,94,96,111])))
 .nil))))))
 .nil)))
def c43:VC:=⟨⟨[],[]⟩,[],[(0,[⟨[(9,.slx 0 0 0),(0,.ptr 0 0),(7,67),(8,68)],[(0,[.slx 1 3 1,65,.slx 2 0 0])],2,3,[⟨1,3,1,0,(some 0)⟩],[],[]⟩])],2,true,[(73,xA_),(74,zd_),(75,wy_),(49,et_),(43,vN_)]⟩
def t43:VT:=
 (.lt Z5 [67] 68 none
 (.chk (.nn 64)
 (.loop 69 0 [J 0,64,66]
 (.cons 3
 (.lt Q4 [69,68] 72 none
 (.ite 72
 (.lt Qw [67,69] 73 none
 (.lt Zo [73] 74 (some 27)
 (.lt Q0 [74,J 1] 101 none
 (.ite 101
 (.callF 73 xA_ [70,65,71,74,75,76,77,78,79,80,81,82,83,84,85,86,87,88,89,90,91,92,93,94,95,96,97,98,99,100] 102
 (.cons 2
 (.lt Q2 [69,J 1] 134 none
 (.chk (.nn 132)
 (.again 0 0 [134,132,133])))
 (.cons 3
 (.chk (.nn 132)
 (.done (.tup [J 1,132,133,134])))
 .nil)))
 (.lt Q0 [74,J 2] 102 none
 (.ite 102
 (.callF 49 et_ [70,65,71,85,86,87,88,89,90,91,92,93,94] 103
 (.cons 3
 (.lt Q8 [117,J 0] 119 none
 (.ite 119
 (.callF 43 vN_ [70,65,71,95] 120
 (.cons 2
 (.lt Q2 [69,J 1] 126 none
 (.chk (.nn 124)
 (.again 0 0 [126,124,125])))
 (.cons 3
 (.chk (.nn 124)
 (.done (.tup [J 1,124,125,126])))
 .nil)))
 (.callF 43 vN_ [70,65,71,96] 120
 (.cons 2
 (.lt Q2 [69,J 1] 126 none
 (.chk (.nn 124)
 (.again 0 0 [126,124,125])))
 (.cons 3
 (.chk (.nn 124)
 (.done (.tup [J 1,124,125,126])))
 .nil)))))
 (.cons 1
 (.chk (.nn 70)
 (.done (.tup [J 1,70,71,116])))
 .nil)))
 (.lt Q0 [74,J 3] 103 none
 (.ite 103
 (.callF 74 zd_ [70,65,71,74,75,76,77,78,79,80,81,82,83,84,85,86,87,88,89,90,91,92,93,94,95,96,97,98,99,100] 104
 (.cons 2
 (.lt Q2 [69,J 1] 136 none
 (.chk (.nn 134)
 (.again 0 0 [136,134,135])))
 (.cons 3
 (.chk (.nn 134)
 (.done (.tup [J 1,134,135,136])))
 .nil)))
 (.lt Q0 [74,J 4] 104 none
 (.ite 104
 (.callF 75 wy_ [70,65,71,74,75,76,77,78,79,80,81,82,83,84,85,86,87,88,89,90,91,92,93,94,95,96,97,98,99,100] 105
 (.cons 2
 (.lt Q2 [69,J 1] 137 none
 (.chk (.nn 135)
 (.again 0 0 [137,135,136])))
 (.cons 3
 (.chk (.nn 135)
 (.done (.tup [J 1,135,136,137])))
 .nil)))
 (.lt Q2 [69,J 1] 105 none
 (.chk (.nn 70)
 (.again 0 0 [105,70,71])))))))))))))
 (.chk (.nn 70)
 (.done (.tup [J 0,70,71])))))
 .nil))))
def RR (r:RSt):Nat->List AV->Prop:=λj ws=>(r.e=0/\j=0/\ws=[d_ r.mem,.int .i64 r.left])\/(r.e≠0/\j=1/\ws=[d_ r.mem,.int .i64 r.left,.int .i64 r.e])
theorem ok2 (m:List FV) (l:Int):okL [d_ m,.int .i64 l]=true:=by simp only [okL,okC,p8_]
theorem ok3 (m:List FV) (l e:Int):okL [d_ m,.int .i64 l,.int .i64 e]=true:=by simp only [okL,okC,p8_]
theorem wx_ {r:RSt} {m:List FV} {l:Int} {hv:List AV} {Y:Sy} {L:List (Nat->List AV->Prop)} (h:ab_ Y.v hv=[d_ m,.int .i64 l]) (hr:r=⟨m,l,0⟩):VOK Tryz.prog (QF (RR r)) L Y (.done (.tup (.int .i64 0::hv))):=
 VOK_fin (j:=0) (by rw [h];exact ok2 m l) (.inl (by subst hr;exact ⟨rfl,rfl,h⟩))
theorem u0_ {r:RSt} {m:List FV} {l e:Int} {hv:List AV} {Y:Sy} {L:List (Nat->List AV->Prop)} (h:ab_ Y.v hv=[d_ m,.int .i64 l,.int .i64 e]) (he:e≠0) (hr:r=⟨m,l,e⟩):VOK Tryz.prog (QF (RR r)) L Y (.done (.tup (.int .i64 1::hv))):=
 VOK_fin (j:=1) (by rw [h];exact ok3 m l e) (.inr (by subst hr;exact ⟨he,rfl,h⟩))
theorem nnV {m:List FV} (hm:MemOk m):∃n z cs,some (d_ m)=some (AV.vsl n z cs):=by
 have:=hm.len
 cases m with
 |nil=>simp at this
 |cons x r=>exact ⟨_,_,_,rfl⟩
theorem wT_ {mem:List FV} {to:GX} (ho:to.op=3) {e:Int} (h:e_ mem to=.error e):S_ mem to=.error e:=by
 obtain ⟨op,kd,nm,fd,ad,n,vk,vi,vf,args⟩:=to
 have ho:op=3:=ho
 simp only [e_,S_]at h⊢
 rw [if_neg (by omega),if_neg (by omega)]at h
 cases hl:f_ mem args with
 |error e'=>rw [hl]at h;cases h;rfl
 |ok l=>
  rw [hl]at h
  simp only [R_]at h⊢
  rw [if_pos ho]at h
  split at h
  .rename_i hc
   cases h
   rw [if_pos hc]
  .cases h
theorem zs_ {mem:List FV} {left er:Int} {to e:GX} (h:e_ mem e=.error er):vp_ to e mem left=⟨mem,left,er⟩:=by
 unfold vp_;rw [h]
theorem zr_ {mem:List FV} {left a:Int} {to e:GX} {v:FV} (h3:to.op=3) (h:e_ mem e=.ok v) (hp:S_ mem to=.ok a):vp_ to e mem left=⟨mem.set a.toNat v,left,0⟩:=by
 unfold vp_;rw [h];simp only;rw [if_pos h3,hp]
theorem yD_ {mem:List FV} {left er:Int} {to e:GX} {v:FV} (h3:to.op=3) (h:e_ mem e=.ok v) (hp:S_ mem to=.error er):vp_ to e mem left=⟨mem,left,er⟩:=by
 unfold vp_;rw [h];simp only;rw [if_pos h3,hp]
theorem zq_ {mem:List FV} {left:Int} {to e:GX} {v:FV} (h3:to.op≠3) (h:e_ mem e=.ok v):vp_ to e mem left=⟨mem.set to.ad.toNat v,left,0⟩:=by
 unfold vp_;rw [h];simp only;rw [if_neg h3]
theorem p73 {mem:List FV} (hm:MemOk mem) (now left:Int) {to e:GX} {thn els:List GS} {nm:List UInt8} {kd ad:Int} {args:List GX} (ht:TX 5 to) (hw:to.op=2/\(to.ad,to.kd)∈wrL\/to.op=3) (he:TX 6 e) (hk:e.kd=to.kd):
  CF Tryz.prog 73 xA_ (MR mem now left++o_ (.mk 1 to e thn els nm kd ad args)) (RR (vp_ to e mem left)):=by
 have hlen:=hm.len
 have h49:=p49 hm now left 6 e he
 have hkept:=λv hv=>X_ hm 6 e he v hv
 have hA:=λv a=>zr_ (mem:=mem) (left:=left) (to:=to) (e:=e) (v:=v) (a:=a)
 have hB:=λv er=>yD_ (mem:=mem) (left:=left) (to:=to) (e:=e) (v:=v) (er:=er)
 have hC:=λv=>zq_ (mem:=mem) (left:=left) (to:=to) (e:=e) (v:=v)
 have hSe:=λer=>zs_ (mem:=mem) (left:=left) (to:=to) (e:=e) (er:=er)
 have hEe:=λer=>p_ (mem:=mem) e er
 have hpe:=λer=>wT_ (mem:=mem) (to:=to) (e:=er)
 have hTe:=λer=>p_ (mem:=mem) to er
 have hpo:=λa=>vU_ (mem:=mem) ht (a:=a)
 have h81:to.op=3->CF Tryz.prog 81 xi_ (MR mem now left++j_ to) (RP mem to):=λh3=>by
  obtain ⟨z1,z2,z3,z4,z5,z6,z7,z8,z9,z10⟩:=to
  exact p81 hm (p49 hm now left 4) ht h3
 obtain ⟨z1,z2,z3,z4,z5,z6,z7,z8,z9,z10⟩:=to
 obtain ⟨e1,e2,e3,e4,e5,e6,e7,e8,e9,e10⟩:=e
 refine vh_ (c:=c73) (n:=300) (t:=t73) mo ov rfl (λY _=>vE_ _) (by kernel_rfl) λY hf hg=>?_
 unfold t73
 refine uw_ h49 (v8_ mem now left (.mk e1 e2 e3 e4 e5 e6 e7 e8 e9 e10)) ⟨?_,?_,trivial⟩
 .rintro ws (⟨v,hv,_,rfl⟩|⟨_,_,h0,_⟩)
  .obtain ⟨tv,vk⟩:=hkept v hv
   (refine b_ rfl rfl ?_ ?_<;>intro h<;>simp only [nc]at h<;>try (exfalso;omega))
   .have h3:=h
    refine uw_ (h81 h3) (v8_ mem now left (.mk z1 z2 z3 z4 z5 z6 z7 z8 z9 z10)) ⟨?_,?_,trivial⟩
    .rintro ws (⟨a,ha,a0,a1,_,rfl⟩|⟨_,_,h0,_⟩)
     .have hp:S_ mem (.mk z1 z2 z3 z4 z5 z6 z7 z8 z9 z10)=.ok (z5+a.i):=by
        simp only [S_,ha,List.headD_cons]
        exact if_neg (λhh=>by rcases hh with hh|hh<;>omega)
      obtain ⟨b1,b2,_⟩:=hpo _ h3 hp
      have hS:=hA v _ h3 hv hp
      obtain ⟨m,em⟩:∃m:Nat,z5+a.i=(m:Int):=⟨(z5+a.i).toNat,by omega⟩
      have hml:m<mem.length:=by omega
      rw [em,Int.toNat_natCast]at hS
      have hkt:=wh_ hm (left:=0) (Int.le_refl _) ht hw he hk
      rw [em]
      refine vx_ (Z_ mem hml) rfl (vx_ (vZ_ mem hml v) (p8_ _) (vd_ (v0_ mem m v) ?_))
      have hm2:MemOk (mem.set m v):=hm.set hml tv (by
       rw [hm.kd hml,vk,hk]
       have:=vU_ ht h3 hp
       rw [this.2.2]
       rcases (by omega:m=8\/m=9\/m=10\/m=11)with rfl|rfl|rfl|rfl<;>rfl)
      exact vd_ (nnV hm2) (wx_ rfl hS)
     .cases h0
    .rintro ws (⟨_,_,_,_,h0,_⟩|⟨er,her,_,rfl⟩)
     .cases h0
     .have hS:=hB v er h3 hv (hpe er h3 her)
      have:=hTe er her
      exact vd_ (nnV hm) (u0_ rfl (by omega) hS)
   .have h3:=h
    have hw':z1=2/\(z5,z2)∈wrL:=by
     rcases hw with hw|hw
     .exact hw
     .exact absurd hw h3
    obtain ⟨q1,q2,q3⟩:=wr_k _ hw'.2
    simp only at q1 q2 q3
    obtain ⟨m,rfl⟩:∃m:Nat,z5=(m:Int):=⟨z5.toNat,by omega⟩
    have hml:m<mem.length:=by omega
    have hS:vp_ _ _ mem left=⟨mem.set m v,left,0⟩:=hC v h3 hv
    have hm2:MemOk (mem.set m v):=hm.set hml tv (by
     rw [hm.kd hml,vk,hk]
     exact q3.symm)
    refine vx_ (Z_ mem hml) rfl (vx_ (vZ_ mem hml v) (p8_ _) (vd_ (v0_ mem m v) (vd_ (nnV hm2) (wx_ rfl hS))))
  .cases h0
 .rintro ws (⟨_,_,h0,_⟩|⟨er,her,_,rfl⟩)
  .cases h0
  .have:=hEe er her
   exact vd_ (nnV hm) (u0_ rfl (by omega) (hSe er her))
def T75 (tail:VT):VT:=
 (.lt Q9 [.sym 93,.int .i64 0] 94 none
 (.lt Qb [.sym 94] 95 (some 10)
 (.callF 49 et_ [.sym 64,.sym 65,.sym 66,.sym 95,.sym 96,.sym 97,.sym 98,.sym 99,.sym 100,.sym 101,.sym 102,.sym 103,.sym 104] 105
  (.cons 3
  (.lt (.bin .neq 2 false true) [.sym 119,.int .i64 0] 121 none
  (.lt (.slc 47 true false) [.sym 93,.int .i64 1] 122 none
  (.lt (.len 47) [.sym 122] 123 none
  (.loop 124 0 [.int .i64 0,.int .i64 0]
   (.cons 2
   (.lt (.bin .lss 3 false false) [.sym 124,.sym 123] 126 none
   (.ite 126
    (.lt (.iaddr 47) [.sym 122,.sym 124] 127 none
    (.lt (.load 49) [.sym 127] 128 (some 10)
    (.callF 49 et_ [.sym 64,.sym 65,.sym 66,.sym 128,.sym 129,.sym 130,.sym 131,.sym 132,.sym 133,.sym 134,.sym 135,.sym 136,.sym 137] 138
     (.cons 3
     (.lt (.bin .add 3 false true) [.sym 124,.int .i64 1] 154 none
     (.again 0 0 [.sym 154,.sym 152]))
     (.cons 1
     (.chk (.nn 64)
     (.done (.tup [.int .i64 1,.sym 64,.sym 66,.sym 151])))
     .nil)))))
    tail))
   .nil)))))
  (.cons 1
  (.chk (.nn 64)
  (.done (.tup [.int .i64 1,.sym 64,.sym 66,.sym 118])))
  .nil)))))
def c75a:VC:=⟨⟨[],[]⟩,[],[(10007,[⟨[],[],0,0,[⟨1,3,21,0,none⟩],[],[]⟩]),(0,[⟨[(21,.slx 0 0 0),(0,.ptr 0 0),(19,122),(3,.ptr 2 0),(4,121),(5,.slx 1 0 0),(20,123)],[(0,[.ptx 1 64 3 0,65,66]),(2,[67,68,69,70,71,72,73,74,75,76,77,78,79,80,81,82,83,84,85,86,87,88,89,90,J 6,J 12,93])],3,2,[],[],[(1,64)]⟩])],2,true,[(49,et_),(115,xD_)]⟩
def x3_:VT:=
 (.lt Z1 [64] 127 (some 63)
 (.callF 115 xD_ [127,128,129,130,131,132,133,134,135,136,137,138,139,140,141,142,143,144,145,146,147,148,149,150,151,152,153,154,155,156,157,158,159,160,161,162,163,164,165,166,167,168,169,170,171,172,173,174,175,176,177,178,179,180,181,182,183,184,185,186,187,188,189,121,125,65] 190
 (.cons 12
 (.done (.tup [J 0,.vsl 21 3 [127,128,129,130,131,132,133,134,135,136,137,138,139,140,141,142,143,144,145,146,147,148,149,150,151,152,153,154,155,156,157,158,159,160,161,162,256,257,258,259,260,261,262,263,264,265,266,267,175,176,177,178,179,180,181,182,183,184,185,186,187,188,189],66]))
 .nil)))
def c75b:VC:=⟨⟨[],[]⟩,[],[(10007,[⟨[],[],0,0,[⟨1,3,21,0,none⟩],[],[]⟩]),(0,[⟨[(21,.slx 0 0 0),(0,.ptr 0 0),(19,122),(3,.ptr 2 0),(4,121),(5,.slx 1 0 0),(20,123)],[(0,[.ptx 1 64 3 0,65,66]),(2,[67,68,69,70,71,72,73,74,75,76,77,78,79,80,81,82,83,84,85,86,87,88,89,90,J 9,J 16,93])],3,2,[],[],[(1,64)]⟩])],2,true,[(49,et_),(116,xB_)]⟩
def x4_:VT:=
 (.lt Z1 [64] 127 (some 63)
 (.callF 116 xB_ [127,128,129,130,131,132,133,134,135,136,137,138,139,140,141,142,143,144,145,146,147,148,149,150,151,152,153,154,155,156,157,158,159,160,161,162,163,164,165,166,167,168,169,170,171,172,173,174,175,176,177,178,179,180,181,182,183,184,185,186,187,188,189,121,125] 190
 (.cons 9
 (.done (.tup [J 0,.vsl 21 3 [127,128,129,130,131,132,133,134,135,136,137,138,139,140,141,142,143,144,145,146,147,148,149,150,151,152,153,154,155,156,157,158,159,160,161,162,163,164,165,166,167,168,169,170,171,172,173,174,255,256,257,258,259,260,261,262,263,184,185,186,187,188,189],66]))
 .nil)))
def c75c:VC:=⟨⟨[],[]⟩,[],[(10007,[⟨[],[],0,0,[⟨1,3,21,0,none⟩],[],[]⟩]),(0,[⟨[(21,.slx 0 0 0),(0,.ptr 0 0),(19,122),(3,.ptr 2 0),(4,121),(5,.slx 1 0 0),(20,123)],[(0,[.ptx 1 64 3 0,65,66]),(2,[67,68,69,70,71,72,73,74,75,76,77,78,79,80,81,82,83,84,85,86,87,88,89,90,J 11,J 19,93])],3,2,[],[],[(1,64)]⟩])],2,true,[(49,et_),(116,xC_)]⟩
def x5_:VT:=
 (.lt Z1 [64] 127 (some 63)
 (.callF 116 xC_ [127,128,129,130,131,132,133,134,135,136,137,138,139,140,141,142,143,144,145,146,147,148,149,150,151,152,153,154,155,156,157,158,159,160,161,162,163,164,165,166,167,168,169,170,171,172,173,174,175,176,177,178,179,180,181,182,183,184,185,186,187,188,189,121,125] 190
 (.cons 6
 (.done (.tup [J 0,.vsl 21 3 [127,128,129,130,131,132,133,134,135,136,137,138,139,140,141,142,143,144,145,146,147,148,149,150,151,152,153,154,155,156,157,158,159,160,161,162,163,164,165,166,167,168,169,170,171,172,173,174,175,176,177,178,179,180,181,182,183,255,256,257,258,259,260],66]))
 .nil)))
theorem vm_ {l:List FV} (h:l.length=21):(XOp.opn 21 3).run Tryz.prog [d_ l]=some (.agg (bA_ g_ l)):=by
 obtain ⟨m0,m1,m2,m3,m4,m5,m6,m7,m8,m9,m10,m11,m12,m13,m14,m15,m16,m17,m18,m19,m20,rfl⟩:=q1_ h
 rfl
theorem nY_ (l:List FV):(bA_ g_ l).length=l.length*3:=by
 induction l with
 |nil=>rfl
 |cons a r ih=>simp only [bA_,List.length_append,v7_,ih,List.length_cons];omega
theorem wR_ {ls:List AV} {kd ad:Int} (hl:ls.length=30) (h27:ls[27]? =some (.int .i64 kd)) (h28:ls[28]? =some (.int .i64 ad)) {B:World} {pr:Nat->Prop} {E:Env} {w:World} {us:List Value} (h:∀(i:Nat) (a:AV),ls[i]? =some a->E.sy (64+i)=some a)
  (hr:Rel B pr E (wy_.ent.heap 64) w) (hc:ConL E (bs_ 64 (cq_ wy_.ent.slots)) us):Rel B pr E heap75 w/\ConL E (wo_ kd ad) us:=by
 refine ⟨hr,?_⟩
 have e:bs_ 64 (cq_ wy_.ent.slots)=[.ptr 0 0,.agg (sy 67 27)]:=by kernel_rfl
 rw [e]at hc
 simp only [ConL]at hc
 obtain ⟨v,r,h1,h2,v2,r2,h3,h4,h5⟩:=hc
 simp only [Con]at h4
 obtain ⟨vs,h6,h7⟩:=h4
 have e2:sy 67 24++[.int .i64 kd,.int .i64 ad,.sym 93]=fR_ 25 (.int .i64 ad) (fR_ 24 (.int .i64 kd) (sy 67 27)):=rfl
 show ConL E [.ptr 0 0,.agg (sy 67 24++[.int .i64 kd,.int .i64 ad,.sym 93])] us
 rw [e2]
 simp only [ConL]
 refine ⟨v,r,h1,h2,v2,r2,h3,?_,h5⟩
 simp only [Con]
 refine ⟨vs,h6,m9_ (a:=.sym 92) (λv hv=>uB_ (h 28 _ h28) hv) 25 _ _ rfl (m9_ (a:=.sym 91) (λv hv=>uB_ (h 27 _ h27) hv) 24 _ _ rfl h7)⟩
theorem v75 {mem:List FV} (hm:MemOk mem) (now left:Int) {op kd ad:Int} {to e:GX} {thn els:List GS} {nm:List UInt8} {args:List GX} (ha:∀a∈args,TX 5 a) (hl:args.length=1\/args.length=2) {Y:Sy} {tail:VT}
  (ht:∀(l:List FV),f_ mem args=.ok l->∀(Y':Sy) (L:List (Nat->List AV->Prop)),Y'.v 64=some (d_ mem)->Y'.v 65=some (.int .i64 now)->Y'.v 66=some (.int .i64 left)->Y'.v 121=some (.bool (decide ((l.headD FV.z).i≠0)))->Y'.v 125=some (.int .i64 (l.tail.headD FV.z).i)->VOK Tryz.prog (QF (RR (E_ now kd args mem left))) L Y' tail):
  VOK Tryz.prog (QF (RR (E_ now kd args mem left))) [] ((Y.puts 64 (MR mem now left++o_ (.mk op to e thn els nm kd ad args))).puts (64+wy_.ent.nv) []) (T75 tail):=by
 obtain ⟨z1,z2,z3,z4,z5,z6,z7,z8,z9,z10⟩:=to
 obtain ⟨e1,e2,e3,e4,e5,e6,e7,e8,e9,e10⟩:=e
 obtain ⟨x,rest,rfl⟩:∃x rest,args=x::rest:=by
  cases args with
  |nil=>simp at hl
  |cons x r=>exact ⟨x,r,rfl⟩
 have hrl:rest.length<=1:=by simp only [List.length_cons]at hl;omega
 have hCe:∀er,f_ mem (x::rest)=.error er->E_ now kd (x::rest) mem left=⟨mem,left,er⟩:=λer h=>by unfold E_;rw [h]
 have hEe:=λer=>V_ (mem:=mem) (x::rest) er
 have h0:=xR_ mem (x::rest)
 have hx:=p49 hm now left 5 x (ha x List.mem_cons_self)
 have hxo:=λv=>xa_ (v:=v) h0 (by simp)
 have hxe:=λer=>w9_ (e:=er) h0 (by simp)
 have hld:=v_ (x::rest) (i:=0) (by simp)
 obtain ⟨x1,x2,x3,x4,x5,x6,x7,x8,x9,x10⟩:=x
 unfold T75
 refine vx_ (u_ (.mk x1 x2 x3 x4 x5 x6 x7 x8 x9 x10::rest) (i:=0) (by simp)) (oL_ okX _) (vf_ hld rfl (okX (.mk x1 x2 x3 x4 x5 x6 x7 x8 x9 x10)) ?_)
 refine uw_ hx (v8_ mem now left (.mk x1 x2 x3 x4 x5 x6 x7 x8 x9 x10)) ⟨?_,?_,trivial⟩
 .rintro ws (⟨a,hav,_,rfl⟩|⟨_,_,h0,_⟩)
  .refine vx_ (run_neq ..) rfl ?_
   rcases rest with _|⟨y,rest⟩
   .have hL:f_ mem [.mk x1 x2 x3 x4 x5 x6 x7 x8 x9 x10]=.ok [a]:=W_ hav
    refine vx_ (r:=.vsl 0 10 []) rfl rfl (vx_ (r:=.int .i64 0) rfl rfl ?_)
    refine uK_ (ι:=Unit) (λ_=>[.int .i64 0,.int .i64 0]) (λ_=>True) (λ_=>0) () trivial rfl (λ_ _=>rfl) (λ_ _ _ _ _=>rfl) (λ_ _=>?_)
    refine vx_ (r:=.bool false) rfl rfl (ve_ (t:=false) rfl (λh=>by cases h) (λ_=>?_))
    exact ht [a] hL _ _ rfl rfl rfl (by show some (AV.bool (!decide (a.i=0)))=some (AV.bool (decide (a.i≠0)));rw [decide_not]) rfl
   .obtain rfl:rest=[]:=by
      cases rest with
      |nil=>rfl
      |cons _ _=>simp at hrl
    obtain ⟨y1,y2,y3,y4,y5,y6,y7,y8,y9,y10⟩:=y
    have hy:=p49 hm now left 5 (.mk y1 y2 y3 y4 y5 y6 y7 y8 y9 y10) (ha _ (List.mem_cons_of_mem _ List.mem_cons_self))
    have hLy:∀b,e_ mem (.mk y1 y2 y3 y4 y5 y6 y7 y8 y9 y10)=.ok b->f_ mem [.mk x1 x2 x3 x4 x5 x6 x7 x8 x9 x10,.mk y1 y2 y3 y4 y5 y6 y7 y8 y9 y10]=.ok [a,b]:=λb hb=>by
     rw [f_,hav];simp only;rw [W_ hb]
    have hLe:∀er,e_ mem (.mk y1 y2 y3 y4 y5 y6 y7 y8 y9 y10)=.error er->f_ mem [.mk x1 x2 x3 x4 x5 x6 x7 x8 x9 x10,.mk y1 y2 y3 y4 y5 y6 y7 y8 y9 y10]=.error er:=λer hb=>by
     rw [f_,hav];simp only;rw [rM_ hb]
    refine vx_ (r:=y_ [.mk y1 y2 y3 y4 y5 y6 y7 y8 y9 y10]) rfl (okA _) (vx_ (r:=.int .i64 1) rfl rfl ?_)
    refine uK_ (ι:=Option FV) (λo=>match o with|none=>[.int .i64 0,.int .i64 0]|some b=>[.int .i64 1,.int .i64 b.i]) (λo=>match o with|none=>True|some b=>e_ mem (.mk y1 y2 y3 y4 y5 y6 y7 y8 y9 y10)=.ok b) (λo=>match o with|none=>1|some _=>0) none trivial rfl (λo _=>by cases o<;>rfl) (λo o' _ _ h=>by cases o<;>cases o'<;>simp at h⊢) (λo ho=>?_)
    cases o with
    |none=>
     refine vx_ (r:=.bool true) rfl rfl (ve_ (t:=true) rfl (λ_=>?_) (λh=>by cases h))
     refine vx_ (u_ [.mk y1 y2 y3 y4 y5 y6 y7 y8 y9 y10] (i:=0) (by simp)) (oL_ okX _) (vf_ (v_ [.mk y1 y2 y3 y4 y5 y6 y7 y8 y9 y10] (i:=0) (by simp)) rfl (okX (.mk y1 y2 y3 y4 y5 y6 y7 y8 y9 y10)) ?_)
     refine uw_ hy (v8_ mem now left (.mk y1 y2 y3 y4 y5 y6 y7 y8 y9 y10)) ⟨?_,?_,trivial⟩
     .rintro ws (⟨b,hb,_,rfl⟩|⟨_,_,h0,_⟩)
      .exact vx_ (r:=.int .i64 1) rfl rfl (uv_ rfl ⟨some b,hb,rfl,Nat.zero_lt_one⟩)
      .cases h0
     .rintro ws (⟨_,_,h0,_⟩|⟨er,her,_,rfl⟩)
      .cases h0
      .have:=p_ _ _ her
       exact vd_ (nnV hm) (u0_ rfl (by omega) (hCe er (hLe er her)))
    |some b=>
     refine vx_ (r:=.bool false) rfl rfl (ve_ (t:=false) rfl (λh=>by cases h) (λ_=>?_))
     exact ht [a,b] (hLy b ho) _ _ rfl rfl rfl (by show some (AV.bool (!decide (a.i=0)))=some (AV.bool (decide (a.i≠0)));rw [decide_not]) rfl
  .cases h0
 .rintro ws (⟨_,_,h0,_⟩|⟨er,her,_,rfl⟩)
  .cases h0
  .have:=p_ _ _ her
   exact vd_ (nnV hm) (u0_ rfl (by omega) (hCe er (hxe er her)))
theorem U_ {Y:Sy} {i:Nat} {a:AV} (h:Y.v i=some a):den Y.v (.sym i)=a:=by simp only [den,h]
theorem Bm_ {m0 m1 m2 m3 m4 m5 m6 m7 m8 m9 m10 m11 m12 m13 m14 m15 m16 m17 m18 m19 m20:FV} (hm:MemOk [m0,m1,m2,m3,m4,m5,m6,m7,m8,m9,m10,m11,m12,m13,m14,m15,m16,m17,m18,m19,m20]): -32768<=m17.i/\m17.i<=32767:=by
 have h:=MemOk.of.1 hm
 obtain ⟨⟨k0,k1,k2,k3,k4,k5,k6,k7,k8,k9,k10,k11,k12,k13,k14,k15,k16,k17,k18,k19,k20⟩,t0,t1,t2,t3,t4,t5,t6,t7,t8,t9,t10,t11,t12,t13,t14,t15,t16,t17,t18,t19,t20⟩:=h
 rcases t17.1 with q|q|q|q|q<;>omega
theorem BS_ {mem:List FV} (hm:MemOk mem) {now left:Int} (hn: -9223372036854775808<=now/\now<=9223372036854775807) {args:List GX} (inn:Bool) {v:Int} (hv: -9223372036854775808<=v/\v<=9223372036854775807) (hr:E_ now 6 args mem left=⟨G_ now 6 mem inn v,left,0⟩) {Y:Sy} {L:List (Nat->List AV->Prop)}
  (h64:Y.v 64=some (d_ mem)) (h65:Y.v 65=some (.int .i64 now)) (h66:Y.v 66=some (.int .i64 left)) (h121:Y.v 121=some (.bool inn)) (h125:Y.v 125=some (.int .i64 v)):VOK Tryz.prog (QF (RR (E_ now 6 args mem left))) L Y x3_:=by
 have hc:=z3_ hm inn hv hn
 obtain ⟨m0,m1,m2,m3,m4,m5,m6,m7,m8,m9,m10,m11,m12,m13,m14,m15,m16,m17,m18,m19,m20,rfl⟩:=q1_ hm.len
 have hop:=vm_ (l:=[m0,m1,m2,m3,m4,m5,m6,m7,m8,m9,m10,m11,m12,m13,m14,m15,m16,m17,m18,m19,m20]) rfl
 unfold x3_
 refine vf_ (cs:=bA_ g_ [m0,m1,m2,m3,m4,m5,m6,m7,m8,m9,m10,m11,m12,m13,m14,m15,m16,m17,m18,m19,m20]) (show (XOp.opn 21 3).run Tryz.prog (ab_ Y.v [.sym 64])=_ from by rw [show ab_ Y.v [.sym 64]=[d_ [m0,m1,m2,m3,m4,m5,m6,m7,m8,m9,m10,m11,m12,m13,m14,m15,m16,m17,m18,m19,m20]] from by simp only [ab_,den,h64]];exact hop) rfl (oL_ okV _) ?_
 have hd:ab_ (Y.puts 127 (bA_ g_ [m0,m1,m2,m3,m4,m5,m6,m7,m8,m9,m10,m11,m12,m13,m14,m15,m16,m17,m18,m19,m20])).v (ai_ 127 63++[.sym 121,.sym 125,.sym 65])=bA_ g_ [m0,m1,m2,m3,m4,m5,m6,m7,m8,m9,m10,m11,m12,m13,m14,m15,m16,m17,m18,m19,m20]++[.bool inn,.int .i64 v,.int .i64 now]:=by
  rw [ds_]
  refine congr (congrArg _ rfl) ?_
  show [den Y.v (.sym 121),den Y.v (.sym 125),den Y.v (.sym 65)]=_
  rw [U_ h121,U_ h125,U_ h65]
 refine uw_ (show CF Tryz.prog 115 xD_ (ab_ (Y.puts 127 (bA_ g_ [m0,m1,m2,m3,m4,m5,m6,m7,m8,m9,m10,m11,m12,m13,m14,m15,m16,m17,m18,m19,m20])).v (ai_ 127 63++[.sym 121,.sym 125,.sym 65])) _ from by rw [hd];exact hc) (show okL (ab_ (Y.puts 127 (bA_ g_ [m0,m1,m2,m3,m4,m5,m6,m7,m8,m9,m10,m11,m12,m13,m14,m15,m16,m17,m18,m19,m20])).v (ai_ 127 63++[.sym 121,.sym 125,.sym 65]))=true from by rw [hd];exact oL_.okL_join (oL_ okV _) rfl) ⟨?_,trivial⟩
 intro ws hws
 obtain ⟨a,b,c,d,e,_⟩:=x6_ m14.i m15.i inn (v:=v) (now:=now) hv.2 hn (((MemOk.of.1 hm).2.2.2.2.2.2.2.2.2.2.2.2.2.2.2.2.1).1.i64)
 have hws:ws=bA_ g_ (vG_ m14.i m15.i inn v now):=hws
 rw [e]at hws
 subst hws
 refine wx_ (m:=[m0,m1,m2,m3,m4,m5,m6,m7,m8,m9,m10,m11,a,b,c,d,m16,m17,m18,m19,m20]) (l:=left) ?_ (by rw [hr];refine congrArg (λm=>RSt.mk m left 0) ?_;show wB_ _ 12 (vG_ m14.i m15.i inn v now)=_;rw [e];rfl)
 show [_,den Y.v (.sym 66)]=_
 rw [U_ h66]
 rfl
theorem BT_ {mem:List FV} (hm:MemOk mem) {now left:Int} (hn: -9223372036854775808<=now/\now<=9223372036854775807) {args:List GX} (inn:Bool) {v:Int} (hv: -9223372036854775808<=v/\v<=9223372036854775807) (hr:E_ now 9 args mem left=⟨G_ now 9 mem inn v,left,0⟩) {Y:Sy} {L:List (Nat->List AV->Prop)}
  (h64:Y.v 64=some (d_ mem)) (h65:Y.v 65=some (.int .i64 now)) (h66:Y.v 66=some (.int .i64 left)) (h121:Y.v 121=some (.bool inn)) (h125:Y.v 125=some (.int .i64 v)):VOK Tryz.prog (QF (RR (E_ now 9 args mem left))) L Y x4_:=by
 have hc:=z4_ hm inn v
 obtain ⟨m0,m1,m2,m3,m4,m5,m6,m7,m8,m9,m10,m11,m12,m13,m14,m15,m16,m17,m18,m19,m20,rfl⟩:=q1_ hm.len
 have hop:=vm_ (l:=[m0,m1,m2,m3,m4,m5,m6,m7,m8,m9,m10,m11,m12,m13,m14,m15,m16,m17,m18,m19,m20]) rfl
 unfold x4_
 refine vf_ (cs:=bA_ g_ [m0,m1,m2,m3,m4,m5,m6,m7,m8,m9,m10,m11,m12,m13,m14,m15,m16,m17,m18,m19,m20]) (show (XOp.opn 21 3).run Tryz.prog (ab_ Y.v [.sym 64])=_ from by rw [show ab_ Y.v [.sym 64]=[d_ [m0,m1,m2,m3,m4,m5,m6,m7,m8,m9,m10,m11,m12,m13,m14,m15,m16,m17,m18,m19,m20]] from by simp only [ab_,den,h64]];exact hop) rfl (oL_ okV _) ?_
 have hd:ab_ (Y.puts 127 (bA_ g_ [m0,m1,m2,m3,m4,m5,m6,m7,m8,m9,m10,m11,m12,m13,m14,m15,m16,m17,m18,m19,m20])).v (ai_ 127 63++[.sym 121,.sym 125])=bA_ g_ [m0,m1,m2,m3,m4,m5,m6,m7,m8,m9,m10,m11,m12,m13,m14,m15,m16,m17,m18,m19,m20]++[.bool inn,.int .i64 v]:=by
  rw [ds_]
  refine congr (congrArg _ rfl) ?_
  show [den Y.v (.sym 121),den Y.v (.sym 125)]=_
  rw [U_ h121,U_ h125]
 refine uw_ (show CF Tryz.prog 116 xB_ (ab_ (Y.puts 127 (bA_ g_ [m0,m1,m2,m3,m4,m5,m6,m7,m8,m9,m10,m11,m12,m13,m14,m15,m16,m17,m18,m19,m20])).v (ai_ 127 63++[.sym 121,.sym 125])) _ from by rw [hd];exact hc) (show okL (ab_ (Y.puts 127 (bA_ g_ [m0,m1,m2,m3,m4,m5,m6,m7,m8,m9,m10,m11,m12,m13,m14,m15,m16,m17,m18,m19,m20])).v (ai_ 127 63++[.sym 121,.sym 125]))=true from by rw [hd];exact oL_.okL_join (oL_ okV _) rfl) ⟨?_,trivial⟩
 intro ws hws
 obtain ⟨a,b,c,e,_⟩:=xv_ m18.i inn v (Bm_ hm)
 have hws:ws=bA_ g_ (vF_ m17.i m18.i inn v):=hws
 rw [e]at hws
 subst hws
 refine wx_ (m:=[m0,m1,m2,m3,m4,m5,m6,m7,m8,m9,m10,m11,m12,m13,m14,m15,a,b,c,m19,m20]) (l:=left) ?_ (by rw [hr];refine congrArg (λm=>RSt.mk m left 0) ?_;show wB_ _ 16 (vF_ m17.i m18.i inn v)=_;rw [e];rfl)
 show [_,den Y.v (.sym 66)]=_
 rw [U_ h66]
 rfl
theorem BU_ {mem:List FV} (hm:MemOk mem) {now left:Int} (hn: -9223372036854775808<=now/\now<=9223372036854775807) {args:List GX} (inn:Bool) {v:Int} (hv: -9223372036854775808<=v/\v<=9223372036854775807) (hr:E_ now 11 args mem left=⟨G_ now 11 mem inn v,left,0⟩) {Y:Sy} {L:List (Nat->List AV->Prop)}
  (h64:Y.v 64=some (d_ mem)) (h65:Y.v 65=some (.int .i64 now)) (h66:Y.v 66=some (.int .i64 left)) (h121:Y.v 121=some (.bool inn)) (h125:Y.v 125=some (.int .i64 v)):VOK Tryz.prog (QF (RR (E_ now 11 args mem left))) L Y x5_:=by
 have hc:=z5_ hm inn v
 obtain ⟨m0,m1,m2,m3,m4,m5,m6,m7,m8,m9,m10,m11,m12,m13,m14,m15,m16,m17,m18,m19,m20,rfl⟩:=q1_ hm.len
 have hop:=vm_ (l:=[m0,m1,m2,m3,m4,m5,m6,m7,m8,m9,m10,m11,m12,m13,m14,m15,m16,m17,m18,m19,m20]) rfl
 unfold x5_
 refine vf_ (cs:=bA_ g_ [m0,m1,m2,m3,m4,m5,m6,m7,m8,m9,m10,m11,m12,m13,m14,m15,m16,m17,m18,m19,m20]) (show (XOp.opn 21 3).run Tryz.prog (ab_ Y.v [.sym 64])=_ from by rw [show ab_ Y.v [.sym 64]=[d_ [m0,m1,m2,m3,m4,m5,m6,m7,m8,m9,m10,m11,m12,m13,m14,m15,m16,m17,m18,m19,m20]] from by simp only [ab_,den,h64]];exact hop) rfl (oL_ okV _) ?_
 have hd:ab_ (Y.puts 127 (bA_ g_ [m0,m1,m2,m3,m4,m5,m6,m7,m8,m9,m10,m11,m12,m13,m14,m15,m16,m17,m18,m19,m20])).v (ai_ 127 63++[.sym 121,.sym 125])=bA_ g_ [m0,m1,m2,m3,m4,m5,m6,m7,m8,m9,m10,m11,m12,m13,m14,m15,m16,m17,m18,m19,m20]++[.bool inn,.int .i64 v]:=by
  rw [ds_]
  refine congr (congrArg _ rfl) ?_
  show [den Y.v (.sym 121),den Y.v (.sym 125)]=_
  rw [U_ h121,U_ h125]
 refine uw_ (show CF Tryz.prog 116 xC_ (ab_ (Y.puts 127 (bA_ g_ [m0,m1,m2,m3,m4,m5,m6,m7,m8,m9,m10,m11,m12,m13,m14,m15,m16,m17,m18,m19,m20])).v (ai_ 127 63++[.sym 121,.sym 125])) _ from by rw [hd];exact hc) (show okL (ab_ (Y.puts 127 (bA_ g_ [m0,m1,m2,m3,m4,m5,m6,m7,m8,m9,m10,m11,m12,m13,m14,m15,m16,m17,m18,m19,m20])).v (ai_ 127 63++[.sym 121,.sym 125]))=true from by rw [hd];exact oL_.okL_join (oL_ okV _) rfl) ⟨?_,trivial⟩
 intro ws hws
 obtain ⟨a,b,e,_⟩:=(⟨_,_,rfl,trivial⟩:∃a b,ru_ m20.i inn=[a,b]/\True)
 have hws:ws=bA_ g_ (ru_ m20.i inn):=hws
 rw [e]at hws
 subst hws
 refine wx_ (m:=[m0,m1,m2,m3,m4,m5,m6,m7,m8,m9,m10,m11,m12,m13,m14,m15,m16,m17,m18,a,b]) (l:=left) ?_ (by rw [hr];refine congrArg (λm=>RSt.mk m left 0) ?_;show wB_ _ 19 (ru_ m20.i inn)=_;rw [e];rfl)
 show [_,den Y.v (.sym 66)]=_
 rw [U_ h66]
 rfl
theorem p75 {mem:List FV} (hm:MemOk mem) {now:Int} (hn: -9223372036854775808<=now/\now<=9223372036854775807) (left:Int) {op kd ad:Int} {to e:GX} {thn els:List GS} {nm:List UInt8} {args:List GX} (hb:Blk kd ad (args.map GX.kd)) (ha:∀a∈args,TX 5 a):
  CF Tryz.prog 75 wy_ (MR mem now left++o_ (.mk op to e thn els nm kd ad args)) (RR (E_ now kd args mem left)):=by
 have hi:∀l,f_ mem args=.ok l-> -9223372036854775808<=(l.tail.headD FV.z).i/\(l.tail.headD FV.z).i<=9223372036854775807:=λl hl=>⟨(uX_ hm ha hl).2,(uX_ hm ha hl).1⟩
 have hR:∀l,f_ mem args=.ok l->E_ now kd args mem left=⟨G_ now kd mem (decide ((l.headD FV.z).i≠0)) (l.tail.headD FV.z).i,left,0⟩:=λl hl=>by unfold E_;rw [hl]
 have hlen:args.length=1\/args.length=2:=by
  rcases hb with ⟨_,_,h⟩|⟨_,_,h⟩|⟨_,_,h⟩<;>(have:=congrArg List.length h;simp at this;omega)
 have hls:(MR mem now left++o_ (.mk op to e thn els nm kd ad args)).length=30:=by rw [List.length_append,yq_];rfl
 have h27:(MR mem now left++o_ (.mk op to e thn els nm kd ad args))[27]? =some (.int .i64 kd):=by
  obtain ⟨z1,z2,z3,z4,z5,z6,z7,z8,z9,z10⟩:=to
  obtain ⟨e1,e2,e3,e4,e5,e6,e7,e8,e9,e10⟩:=e
  rfl
 have h28:(MR mem now left++o_ (.mk op to e thn els nm kd ad args))[28]? =some (.int .i64 ad):=by
  obtain ⟨z1,z2,z3,z4,z5,z6,z7,z8,z9,z10⟩:=to
  obtain ⟨e1,e2,e3,e4,e5,e6,e7,e8,e9,e10⟩:=e
  rfl
 rcases hb with ⟨rfl,rfl,_⟩|⟨rfl,rfl,_⟩|⟨rfl,rfl,_⟩
 .exact vg_ (c:=c75a) (ex:=[]) (args:=wo_ 6 12) (H:=heap75) (n:=300) (t:=T75 x3_) mo ov hls (λY=>vE_ _) rfl (λB pr E w us h _ hr hc=>wR_ hls h27 h28 h hr hc) (by kernel_rfl) λY hf hg=>v75 hm now left ha hlen λl hl Y' L h64 h65 h66 h121 h125=>BS_ hm hn _ (hi l hl) (hR l hl) h64 h65 h66 h121 h125
 .exact vg_ (c:=c75b) (ex:=[]) (args:=wo_ 9 16) (H:=heap75) (n:=300) (t:=T75 x4_) mo ov hls (λY=>vE_ _) rfl (λB pr E w us h _ hr hc=>wR_ hls h27 h28 h hr hc) (by kernel_rfl) λY hf hg=>v75 hm now left ha hlen λl hl Y' L h64 h65 h66 h121 h125=>BT_ hm hn _ (hi l hl) (hR l hl) h64 h65 h66 h121 h125
 .exact vg_ (c:=c75c) (ex:=[]) (args:=wo_ 11 19) (H:=heap75) (n:=300) (t:=T75 x5_) mo ov hls (λY=>vE_ _) rfl (λB pr E w us h _ hr hc=>wR_ hls h27 h28 h hr hc) (by kernel_rfl) λY hf hg=>v75 hm now left ha hlen λl hl Y' L h64 h65 h66 h121 h125=>BU_ hm hn _ (hi l hl) (hR l hl) h64 h65 h66 h121 h125
def c16:VC:=⟨⟨[],[]⟩,[],[],0,true,[(43,vN_)]⟩
def t16:VT:=
 (.lt Zv [66,.nsl] 69 none
 (.ite 69
 .bad
 (.lt Qn [.vsl 0 3 [],66] 70 none
 (.callF 43 vN_ [70,67,68,65] 71
 (.cons 2
 (.chk (.same 70 75)
 (.done (.tup [J 0,75,J 0])))
 (.cons 3
 (.chk (.same 70 75)
 (.done (.tup [J 0,75,77])))
 .nil))))))
def P43 (now:Int) (d:Nat):Prop:=∀(l:List GS),l.length<=5->(∀s∈l,TS d s)->∀(mem:List FV) (left:Int),MemOk mem->0<=left->left<=100000->CF Tryz.prog 43 vN_ (MR mem now left++[q_ l]) (RR (B_ (m_ now d) l mem left))
theorem zh_ (mem:List FV) (now left:Int) (l:List GS):okL (MR mem now left++[q_ l])=true:=yt_ _ _ _ (by simp only [okL,okB])
theorem Bw_ (mem:List FV) (now left:Int) (s:GS):okL (MR mem now left++o_ s)=true:=yt_ _ _ _ (okS s)
theorem zo_ {body:List FV->Int->RSt} {c:List FV->Except Int FV} {n:Nat} {mem:List FV} {left:Int}:v9_ body c (n+1) mem left=if left-1<0 then ⟨mem,left-1,8⟩else match c mem with
 | .error e=>⟨mem,left-1,e⟩
 | .ok v=>if v.i=0 then ⟨mem,left-1,0⟩else if (body mem (left-1)).e=0 then v9_ body c n (body mem (left-1)).mem (body mem (left-1)).left else body mem (left-1):=rfl
theorem p74 {now:Int} (hn: -9223372036854775808<=now/\now<=9223372036854775807) {d:Nat} (ih:P43 now d) {to e:GX} {thn els:List GS} {nm:List UInt8} {kd ad:Int} {args:List GX} (he:TX 5 e) (hL:thn.length<=5) (ht:∀s∈thn,TS d s) {mem:List FV} {left:Int} (hm:MemOk mem) (hl:0<=left) (hl2:left<=100000):
  CF Tryz.prog 74 zd_ (MR mem now left++o_ (.mk 3 to e thn els nm kd ad args)) (RR (v9_ (B_ (m_ now d) thn) (λm=>e_ m e) (left.toNat+1) mem left)):=by
 have hE:=λm er=>p_ (mem:=m) e er
 have h49:=λm (hm:MemOk m) lf=>p49 hm now lf 5 e he
 have hk:=λm lf (hm:MemOk m) (h:0<=lf)=>P_ (f:=m_ now d) thn m lf (λs hs m l hm hl=>Y_ hn d s (ht s hs) m l hm hl) hm h
 obtain ⟨z1,z2,z3,z4,z5,z6,z7,z8,z9,z10⟩:=to
 obtain ⟨e1,e2,e3,e4,e5,e6,e7,e8,e9,e10⟩:=e
 refine vh_ (c:=c74) (n:=300) (t:=t74) mo ov rfl (λY _=>vE_ _) (by kernel_rfl) λY hf hg=>?_
 unfold t74
 refine vd_ (nnV hm) ?_
 generalize hbody:B_ (m_ now d) thn=body at*
 generalize hres:v9_ body (λm=>e_ m (.mk e1 e2 e3 e4 e5 e6 e7 e8 e9 e10)) (left.toNat+1) mem left=res at*
 refine uK_ (ι:=List FV×Int) (λs=>[d_ s.1,.int .i64 s.2]) (λs=>MemOk s.1/\0<=s.2/\s.2<=left/\∃f,s.2.toNat+1<=f/\v9_ body (λm=>e_ m (.mk e1 e2 e3 e4 e5 e6 e7 e8 e9 e10)) f s.1 s.2=res) (λs=>s.2.toNat) (mem,left) ⟨hm,hl,Int.le_refl _,_,Nat.le_refl _,hres⟩ rfl (λs _=>ok2 _ _) (λs s' _ _ h=>by simp at h;rw [h.2]) (λs hs=>?_)
 obtain ⟨m,lf⟩:=s
 obtain ⟨hm1,hl1,hl3,f,hf1,hr⟩:=hs
 simp only at hm1 hl1 hl3 hf1 hr⊢
 obtain ⟨n,rfl⟩:∃n,f=n+1:=⟨f-1,by omega⟩
 rw [zo_]at hr
 refine vx_ (s_ (z:=lf-1) rfl (by omega) (by omega)) rfl ?_
 (refine b_ rfl rfl ?_ ?_<;>intro h<;>simp only [nc]at h<;>try (exfalso;omega))
 .rw [if_pos h]at hr
  refine uw_ (xN_ 8) rfl ⟨?_,?_,trivial⟩
  .rintro ws (⟨_,h0,_⟩|⟨h0,_⟩)
   .cases h0
   .cases h0
  .rintro ws (⟨h0,_⟩|⟨_,_,rfl⟩)
   .cases h0
   .exact vd_ (nnV hm1) (u0_ rfl (by decide) hr.symm)
 rw [if_neg (by omega)]at hr
 refine uw_ (h49 m hm1 (lf-1)) (v8_ m now (lf-1) (.mk e1 e2 e3 e4 e5 e6 e7 e8 e9 e10)) ⟨?_,?_,trivial⟩
 .rintro ws (⟨v,hv,_,rfl⟩|⟨_,_,h0,_⟩)
  .rw [hv]at hr
   simp only at hr
   (refine b_ rfl rfl ?_ ?_<;>intro h<;>simp only [nc]at h<;>try (exfalso;omega))
   .rw [if_pos h]at hr
    exact vd_ (nnV hm1) (wx_ rfl hr.symm)
   .rw [if_neg h]at hr
    have hkk:=hk m (lf-1) hm1 (by omega)
    have h43:=ih thn hL ht m (lf-1) hm1 (by omega) (by omega)
    rw [hbody]at h43
    generalize body m (lf-1)=r at*
    refine uw_ h43 (zh_ m now (lf-1) thn) ⟨?_,?_,trivial⟩
    .rintro ws (⟨h0,_,rfl⟩|⟨_,h0,_⟩)
     .rw [if_pos h0]at hr
      have:=hkk.2.2.1 h0
      exact vd_ (nnV hkk.1) (uv_ rfl ⟨(r.mem,r.left),⟨hkk.1,this.1,by omega,n,by omega,hr⟩,rfl,by simp only;omega⟩)
     .cases h0
    .rintro ws (⟨_,h0,_⟩|⟨h0,_,rfl⟩)
     .cases h0
     .rw [if_neg h0]at hr
      exact vd_ (nnV hkk.1) (u0_ rfl h0 hr.symm)
  .cases h0
 .rintro ws (⟨_,_,h0,_⟩|⟨er,her,_,rfl⟩)
  .cases h0
  .rw [her]at hr
   have:=hE m er her
   exact vd_ (nnV hm1) (u0_ rfl (by omega) hr.symm)
theorem zp_ {f:GS->List FV->Int->RSt} {s:GS} {r:List GS} {mem:List FV} {left:Int}:B_ f (s::r) mem left=if (f s mem left).e=0 then B_ f r (f s mem left).mem (f s mem left).left else f s mem left:=rfl
theorem p43 {now:Int} (hn: -9223372036854775808<=now/\now<=9223372036854775807):∀d:Nat,P43 now d
 |d,l,hL,hT,mem,left,hm,hl,hl2=>by
  refine vh_ (c:=c43) (n:=300) (t:=t43) mo ov rfl (λY _=>vE_ _) (by kernel_rfl) λY hf hg=>?_
  unfold t43
  refine vx_ (vl_ l) rfl (vd_ (nnV hm) ?_)
  generalize hres:B_ (m_ now d) l mem left=res at*
  refine uK_ (ι:=Nat×List FV×Int) (λs=>[.int .i64 (s.1:Int),d_ s.2.1,.int .i64 s.2.2]) (λs=>s.1<=l.length/\MemOk s.2.1/\0<=s.2.2/\s.2.2<=left/\B_ (m_ now d) (l.drop s.1) s.2.1 s.2.2=res) (λs=>l.length-s.1) (0,mem,left) ⟨Nat.zero_le _,hm,hl,Int.le_refl _,hres⟩ rfl (λs _=>by simp only [okL,okC,p8_]) (λs s' _ _ h=>by simp at h;omega) (λs hs=>?_)
  obtain ⟨i,m,lf⟩:=s
  obtain ⟨h1,hm1,hl1,hl3,hr⟩:=hs
  simp only at h1 hm1 hl1 hl3 hr⊢
  (refine b_ rfl rfl ?_ ?_<;>intro h<;>simp only [nc]at h<;>try (exfalso;omega))
  .have hi:i<l.length:=by omega
   have hld:=wJ_ l hi
   have hs:=hT l[i] (List.getElem_mem hi)
   rw [List.drop_eq_getElem_cons hi,zp_]at hr
   have hkk:=Y_ hn d l[i] hs m lf hm1 hl1
   have fin0:∀(r:RSt),m_ now d l[i] m lf=r->r.e=0->MemOk r.mem/\0<=r.left/\r.left<=left/\B_ (m_ now d) (l.drop (i+1)) r.mem r.left=res:=λr e h0=>by
    rw [e]at hkk hr
    rw [if_pos h0]at hr
    have:=hkk.2.2.1 h0
    exact ⟨hkk.1,this.1,by omega,hr⟩
   have fin1:∀(r:RSt),m_ now d l[i] m lf=r->r.e≠0->MemOk r.mem/\res=r:=λr e h0=>by
    rw [e]at hkk hr
    rw [if_neg h0]at hr
    exact ⟨hkk.1,hr.symm⟩
   clear hr hkk
   rcases hss:l[i]with ⟨op,to,e,thn,els,nm,kd,ad,args⟩
   rw [hss]at hld hs fin0 fin1
   obtain ⟨d,rfl⟩:∃e,d=e+1:=by cases d with|zero=>exact hs.elim|succ d=>exact ⟨d,rfl⟩
   have ih:=p43 hn d
   obtain ⟨z1,z2,z3,z4,z5,z6,z7,z8,z9,z10⟩:=to
   obtain ⟨e1,e2,e3,e4,e5,e6,e7,e8,e9,e10⟩:=e
   refine vx_ (vY_ l hi) (oL_ okS _) (vf_ hld rfl (okS (.mk op (.mk z1 z2 z3 z4 z5 z6 z7 z8 z9 z10) (.mk e1 e2 e3 e4 e5 e6 e7 e8 e9 e10) thn els nm kd ad args)) ?_)
   have hok:=Bw_ m now lf (.mk op (.mk z1 z2 z3 z4 z5 z6 z7 z8 z9 z10) (.mk e1 e2 e3 e4 e5 e6 e7 e8 e9 e10) thn els nm kd ad args)
   (refine b_ rfl rfl ?_ ?_<;>intro h<;>simp only [nc]at h<;>try (exfalso;omega))
   .subst h
    rcases hs with ⟨_,q2,q3,q4,q5,_⟩|⟨q1,_⟩|⟨q1,_⟩
    .have hc:=p73 (thn:=thn) (els:=els) (nm:=nm) (kd:=kd) (ad:=ad) (args:=args) hm1 now lf q2 q3 q4 q5
     refine uw_ hc hok ⟨?_,?_,trivial⟩
     .rintro ws (⟨h0,_,rfl⟩|⟨_,h0,_⟩)
      .obtain ⟨g1,g2,g3,g4⟩:=fin0 _ rfl h0
       exact vx_ (h_ (by omega) (by omega)) rfl (vd_ (nnV g1) (uv_ rfl ⟨(i+1,_,_),⟨hi,g1,g2,g3,g4⟩,rfl,by simp only;omega⟩))
      .cases h0
     .rintro ws (⟨_,h0,_⟩|⟨h0,_,rfl⟩)
      .cases h0
      .obtain ⟨g1,g2⟩:=fin1 _ rfl h0
       exact vd_ (nnV g1) (u0_ rfl h0 g2)
    .omega
    .omega
   have n1:=h
   (refine b_ rfl rfl ?_ ?_<;>intro h<;>simp only [nc]at h<;>try (exfalso;omega))
   .subst h
    rcases hs with ⟨q1,_⟩|⟨_,q2,_,q4,q5,q6,q7⟩|⟨q1,_⟩
    .omega
    .refine uw_ (p49 hm1 now lf 5 _ q2) (v8_ m now lf (.mk e1 e2 e3 e4 e5 e6 e7 e8 e9 e10)) ⟨?_,?_,trivial⟩
     .rintro ws (⟨v,hv,_,rfl⟩|⟨_,_,h0,_⟩)
      ·(refine b_ rfl rfl ?_ ?_<;>intro h<;>simp only [nc]at h<;>try (exfalso;omega))
       .have hR:m_ now (d+1) (.mk 2 (.mk z1 z2 z3 z4 z5 z6 z7 z8 z9 z10) (.mk e1 e2 e3 e4 e5 e6 e7 e8 e9 e10) thn els nm kd ad args) m lf=B_ (m_ now d) thn m lf:=by
          rw [m_,if_neg (by decide),if_pos rfl,hv]
          simp only
          rw [if_pos h]
        refine uw_ (ih thn q4 q6 m lf hm1 hl1 (by omega)) (zh_ m now lf thn) ⟨?_,?_,trivial⟩
        .rintro ws (⟨h0,_,rfl⟩|⟨_,h0,_⟩)
         .obtain ⟨g1,g2,g3,g4⟩:=fin0 _ hR h0
          exact vx_ (h_ (by omega) (by omega)) rfl (vd_ (nnV g1) (uv_ rfl ⟨(i+1,_,_),⟨hi,g1,g2,g3,g4⟩,rfl,by simp only;omega⟩))
         .cases h0
        .rintro ws (⟨_,h0,_⟩|⟨h0,_,rfl⟩)
         .cases h0
         .obtain ⟨g1,g2⟩:=fin1 _ hR h0
          exact vd_ (nnV g1) (u0_ rfl h0 g2)
       .have hR:m_ now (d+1) (.mk 2 (.mk z1 z2 z3 z4 z5 z6 z7 z8 z9 z10) (.mk e1 e2 e3 e4 e5 e6 e7 e8 e9 e10) thn els nm kd ad args) m lf=B_ (m_ now d) els m lf:=by
          rw [m_,if_neg (by decide),if_pos rfl,hv]
          simp only
          rw [if_neg (by simpa using h)]
        refine uw_ (ih els q5 q7 m lf hm1 hl1 (by omega)) (zh_ m now lf els) ⟨?_,?_,trivial⟩
        .rintro ws (⟨h0,_,rfl⟩|⟨_,h0,_⟩)
         .obtain ⟨g1,g2,g3,g4⟩:=fin0 _ hR h0
          exact vx_ (h_ (by omega) (by omega)) rfl (vd_ (nnV g1) (uv_ rfl ⟨(i+1,_,_),⟨hi,g1,g2,g3,g4⟩,rfl,by simp only;omega⟩))
         .cases h0
        .rintro ws (⟨_,h0,_⟩|⟨h0,_,rfl⟩)
         .cases h0
         .obtain ⟨g1,g2⟩:=fin1 _ hR h0
          exact vd_ (nnV g1) (u0_ rfl h0 g2)
      .cases h0
     .rintro ws (⟨_,_,h0,_⟩|⟨er,her,_,rfl⟩)
      .cases h0
      .have hR:m_ now (d+1) (.mk 2 (.mk z1 z2 z3 z4 z5 z6 z7 z8 z9 z10) (.mk e1 e2 e3 e4 e5 e6 e7 e8 e9 e10) thn els nm kd ad args) m lf=⟨m,lf,er⟩:=by
         rw [m_,if_neg (by decide),if_pos rfl,her]
       have:=p_ _ _ her
       obtain ⟨g1,g2⟩:=fin1 _ hR (by show er≠0;omega)
       exact vd_ (nnV hm1) (u0_ rfl (by omega) g2)
    .omega
   have n2:=h
   (refine b_ rfl rfl ?_ ?_<;>intro h<;>simp only [nc]at h<;>try (exfalso;omega))
   .subst h
    rcases hs with ⟨q1,_⟩|⟨_,q2,_,q4,q5,q6,q7⟩|⟨q1,_⟩
    .omega
    .have hc:=p74 (to:=.mk z1 z2 z3 z4 z5 z6 z7 z8 z9 z10) (thn:=thn) (els:=els) (nm:=nm) (kd:=kd) (ad:=ad) (args:=args) hn ih q2 q4 q6 hm1 hl1 (by omega)
     have hR:m_ now (d+1) (.mk 3 (.mk z1 z2 z3 z4 z5 z6 z7 z8 z9 z10) (.mk e1 e2 e3 e4 e5 e6 e7 e8 e9 e10) thn els nm kd ad args) m lf=v9_ (B_ (m_ now d) thn) (λm=>e_ m (.mk e1 e2 e3 e4 e5 e6 e7 e8 e9 e10)) (lf.toNat+1) m lf:=by
      rw [m_,if_neg (by decide),if_neg (by decide),if_pos rfl]
     refine uw_ hc hok ⟨?_,?_,trivial⟩
     .rintro ws (⟨h0,_,rfl⟩|⟨_,h0,_⟩)
      .obtain ⟨g1,g2,g3,g4⟩:=fin0 _ hR h0
       exact vx_ (h_ (by omega) (by omega)) rfl (vd_ (nnV g1) (uv_ rfl ⟨(i+1,_,_),⟨hi,g1,g2,g3,g4⟩,rfl,by simp only;omega⟩))
      .cases h0
     .rintro ws (⟨_,h0,_⟩|⟨h0,_,rfl⟩)
      .cases h0
      .obtain ⟨g1,g2⟩:=fin1 _ hR h0
       exact vd_ (nnV g1) (u0_ rfl h0 g2)
    .omega
   have n3:=h
   (refine b_ rfl rfl ?_ ?_<;>intro h<;>simp only [nc]at h<;>try (exfalso;omega))
   .subst h
    rcases hs with ⟨q1,_⟩|⟨q1,_⟩|⟨_,q2,q3,_⟩
    .omega
    .omega
    .have hc:=p75 (op:=4) (to:=.mk z1 z2 z3 z4 z5 z6 z7 z8 z9 z10) (e:=.mk e1 e2 e3 e4 e5 e6 e7 e8 e9 e10) (thn:=thn) (els:=els) (nm:=nm) hm1 hn lf q2 q3
     have hR:m_ now (d+1) (.mk 4 (.mk z1 z2 z3 z4 z5 z6 z7 z8 z9 z10) (.mk e1 e2 e3 e4 e5 e6 e7 e8 e9 e10) thn els nm kd ad args) m lf=E_ now kd args m lf:=by
      rw [m_,if_neg (by decide),if_neg (by decide),if_neg (by decide)]
     refine uw_ hc hok ⟨?_,?_,trivial⟩
     .rintro ws (⟨h0,_,rfl⟩|⟨_,h0,_⟩)
      .obtain ⟨g1,g2,g3,g4⟩:=fin0 _ hR h0
       exact vx_ (h_ (by omega) (by omega)) rfl (vd_ (nnV g1) (uv_ rfl ⟨(i+1,_,_),⟨hi,g1,g2,g3,g4⟩,rfl,by simp only;omega⟩))
      .cases h0
     .rintro ws (⟨_,h0,_⟩|⟨h0,_,rfl⟩)
      .cases h0
      .obtain ⟨g1,g2⟩:=fin1 _ hR h0
       exact vd_ (nnV g1) (u0_ rfl h0 g2)
   .exfalso
    rcases hs with ⟨q1,_⟩|⟨q1,_⟩|⟨q1,_⟩<;>omega
  .have hi:i=l.length:=by omega
   subst hi
   rw [List.drop_length]at hr
   exact vd_ (nnV hm1) (wx_ rfl hr.symm)
theorem zQ_ {mem:List FV} (h:MemOk mem):(XOp.bin .eql 31 false true).run Tryz.prog [d_ mem,.nsl]=some (.bool false):=by
 obtain ⟨m0,m1,m2,m3,m4,m5,m6,m7,m8,m9,m10,m11,m12,m13,m14,m15,m16,m17,m18,m19,m20,rfl⟩:=q1_ h.len
 kernel_rfl
theorem y6_ {mem:List FV} (h:MemOk mem):(XOp.app 3 24).run Tryz.prog [.vsl 0 3 [],d_ mem]=some (d_ mem):=by
 obtain ⟨m0,m1,m2,m3,m4,m5,m6,m7,m8,m9,m10,m11,m12,m13,m14,m15,m16,m17,m18,m19,m20,rfl⟩:=q1_ h.len
 kernel_rfl
theorem xX_ {a b:List FV} (ha:MemOk a) (hb:MemOk b):(some (d_ a)=some .nsl/\some (d_ b)=some .nsl)\/∃n z cs ds,some (d_ a)=some (.vsl n z cs)/\some (d_ b)=some (.vsl n z ds):=by
 have h1:=ha.len
 have h2:=hb.len
 cases a with
 |nil=>simp at h1
 |cons x r=>cases b with
  |nil=>simp at h2
  |cons y q=>
   have e:q.length=r.length:=by simp at h1 h2;omega
   refine .inr ⟨_,_,_,bA_ g_ (y::q),rfl,?_⟩
   show some (AV.vsl (q.length+1) 3 _)=_
   rw [e]
def RQ (r:RSt):Nat->List AV->Prop:=λ_ ws=>ws=[d_ r.mem,.int .i64 r.e]
theorem BL_ {now:Int} {d:Nat} {mem:List FV} (hm:MemOk mem) (left:Int):CF Tryz.prog 43 vN_ (MR mem now left++[.vsl 0 27 []]) (RR (B_ (m_ now d) [] mem left)):=by
 refine vh_ (c:=c43) (n:=300) (t:=t43) mo ov rfl (λY _=>vE_ _) (by kernel_rfl) λY hf hg=>?_
 unfold t43
 refine vx_ (r:=.int .i64 0) rfl rfl (vd_ (nnV hm) ?_)
 refine uK_ (ι:=Unit) (λs=>[.int .i64 0,d_ mem,.int .i64 left]) (λs=>True) (λs=>0) () trivial rfl (λs _=>by simp only [okL,okC,p8_]) (λs s' _ _ h=>rfl) (λs hs=>?_)
 (refine b_ rfl rfl ?_ ?_<;>intro h<;>simp only [nc]at h<;>try (exfalso;omega))
 exact vd_ (nnV hm) (wx_ rfl rfl)
theorem BM_ {now:Int} (hn: -9223372036854775808<=now/\now<=9223372036854775807) (d:Nat) {l:List GS} {b:AV} (hb:SlV o_ 27 l b) (hL:l.length<=5) (hT:∀s∈l,TS d s) {mem:List FV} {left:Int} (hm:MemOk mem) (hl:0<=left) (hl2:left<=100000):
  CF Tryz.prog 43 vN_ (MR mem now left++[b]) (RR (B_ (m_ now d) l mem left)):=by
 by_cases h0:l=[]
 .subst h0
  rcases hb with rfl|⟨_,rfl⟩
  .exact BL_ hm left
  .exact p43 hn d [] hL hT mem left hm hl hl2
 .rw [hb.eq h0,←nw_]
  exact p43 hn d l hL hT mem left hm hl hl2
theorem BJ_ {now:Int} (hn: -9223372036854775808<=now/\now<=9223372036854775807) {d:Nat} {l:List GS} {b:AV} (hb:SlV o_ 27 l b) (hL:l.length<=5) (hT:∀s∈l,TS d s) (vars:AV) (hv:okC vars=true) {mem:List FV} (hm:MemOk mem) {left:Int} (hl:0<=left) (hl2:left<=100000):
  CF Tryz.prog 16 ft16 [vars,b,d_ mem,.int .i64 now,.int .i64 left] (RQ (B_ (m_ now d) l mem left)):=by
 have hkk:=P_ (f:=m_ now d) l mem left (λs hs m l hm hl=>Y_ hn d s (hT s hs) m l hm hl) hm hl
 refine vh_ (c:=c16) (n:=300) (t:=t16) mo ov rfl (λY _=>vE_ _) (by kernel_rfl) λY hf hg=>?_
 unfold t16
 refine vx_ (zQ_ hm) rfl (ve_ rfl (λh=>by cases h) (λ_=>?_))
 refine vx_ (y6_ hm) (p8_ mem) ?_
 have h43:=BM_ hn d hb hL hT hm hl hl2
 have hbo:=hb.ok okS
 generalize B_ (m_ now d) l mem left=res at*
 refine uw_ h43 (show okL (MR mem now left++[b])=true from yt_ mem now left (by simp only [okL,hbo])) ⟨?_,?_,trivial⟩
 .rintro ws (⟨h0,_,rfl⟩|⟨_,h0,_⟩)
  .exact vd_ (xX_ hm hkk.1) (VOK_fin (ok2 _ _) (show _=[d_ res.mem,.int .i64 res.e] by rw [h0];rfl))
  .cases h0
 .rintro ws (⟨_,h0,_⟩|⟨h0,_,rfl⟩)
  .cases h0
  .exact vd_ (xX_ hm hkk.1) (VOK_fin (ok2 _ _) (show _=[d_ res.mem,.int .i64 res.e] from rfl))
theorem p16 {now:Int} (hn: -9223372036854775808<=now/\now<=9223372036854775807) {d:Nat} {l:List GS} (hL:l.length<=5) (hT:∀s∈l,TS d s) (vars:AV) (hv:okC vars=true) {mem:List FV} (hm:MemOk mem) {left:Int} (hl:0<=left) (hl2:left<=100000):
 CF Tryz.prog 16 ft16 [vars,q_ l,d_ mem,.int .i64 now,.int .i64 left] (RQ (B_ (m_ now d) l mem left)):=BJ_ hn (by rw [nw_];exact SlV.of l) hL hT vars hv hm hl hl2
def c54:VC:=⟨⟨[],[]⟩,[],[],0,true,[]⟩
def t54:VT:=
 (.lt Zr [64,64] 65 none
 (.ite 65
 (.done (.int .u64 9221120237041090561))
 (.lt (.ext 88) [64] 66 none
 (.done (66)))))
def c52:VC:=⟨⟨[],[]⟩,[(54,[none])],[],0,true,[]⟩
def t52:VT:=
 (.call 54 [64] 66 [none]
 (.call 54 [65] 67 [none]
 (.lt (.bin .eql 101 false false) [66,67] 68 none
 (.done (68)))))
def c24:VC:=⟨⟨[],[]⟩,[(52,[none])],[],0,true,[]⟩
def t24:VT:=
 (.lt Qj [64,67] 70 none
 (.ite 70
 (.lt Ql [65,68] 71 none
 (.ite 71
 (.call 52 [66,69] 72 [none]
 (.done (72)))
 (.done (.bool false))))
 (.done (.bool false))))
def zC_:Option Nat->Int
 |none=>9221120237041090561
 |some n=>if dk_ n=true then 9221120237041090561 else (n:Int)
theorem zR_ (n:Nat):(XOp.ext 88).run Tryz.prog [.flt .f64 n]=some (.int .u64 (n:Int)):=by kernel_rfl
theorem p54 (o:Option Nat):jA_ Tryz.prog 54 [fv o] (.int .u64 (zC_ o)):=by
 refine t8_ (sh:=[none]) (ls:=[fv o]) (c:=c54) (n:=300) (t:=t54) mo ov rfl (Bu_ o) rfl (λY _=>vE_ _) rfl (by kernel_rfl) λY hf hg=>?_
 unfold t54
 refine vx_ (vX_ ..) rfl (ve_ rfl (λh=>?_) (λh=>?_))
 .rw [w0_]at h
  refine uJ_ ?_
  cases o with
  |none=>rfl
  |some n=>
   show AV.int _ _=AV.int _ (if dk_ n=true then 9221120237041090561 else (n:Int))
   exact congrArg (AV.int .u64) (if_pos h).symm
 .rw [w0_]at h
  cases o with
  |none=>cases h
  |some n=>
   refine vx_ (zR_ n) rfl (uJ_ ?_)
   show AV.int _ _=AV.int _ (if dk_ n=true then 9221120237041090561 else (n:Int))
   rw [if_neg (by rw [show dk_ n=false from h];exact Bool.false_ne_true)]
theorem p52 (o:Option Nat):jA_ Tryz.prog 52 [fv o,fv o] (.bool true):=by
 refine t8_ (sh:=[none,none]) (ls:=[fv o,fv o]) (c:=c52) (n:=300) (t:=t52) mo ov rfl (by simp only [okL,vO_]) rfl (λY _=>vE_ _) rfl (by kernel_rfl) λY hf hg=>?_
 unfold t52
 exact uI_ (p54 o) rfl rfl (uI_ (p54 o) rfl rfl (vx_ (run_eql ..) rfl (uJ_ (congrArg AV.bool (decide_eq_true rfl)))))
theorem p24 (v:FV):jA_ Tryz.prog 24 [.agg (g_ v),.agg (g_ v)] (.bool true):=by
 refine t8_ (sh:=[some 3,some 3]) (ls:=g_ v++g_ v) (c:=c24) (n:=300) (t:=t24) mo ov rfl (oL_.okL_join (okV v) (okV v)) rfl (λY _=>vE_ _) rfl (by kernel_rfl) λY hf hg=>?_
 unfold t24
 (refine b_ rfl rfl ?_ ?_<;>intro h<;>simp only [nc]at h<;>try (exfalso;omega))
 (refine b_ rfl rfl ?_ ?_<;>intro h<;>simp only [nc]at h<;>try (exfalso;omega))
 exact uI_ (p52 v.f) rfl rfl (uJ_ rfl)
def c18:VC:=⟨⟨[],[]⟩,[(24,[none])],[(0,[⟨[(5,.slx 0 0 0),(1,65),(0,64)],[],0,1,[],[],[]⟩])],0,true,[]⟩
def t18:VT:=
 (.lt Qu [64] 66 none
 (.lt Qu [65] 67 none
 (.lt Q7 [66,67] 68 none
 (.ite 68
 (.done (.bool false))
 (.loop 69 0 [J 0]
 (.cons 1
 (.lt Qu [64] 70 none
 (.lt Q4 [69,70] 71 none
 (.ite 71
 (.lt Qh [64,69] 72 none
 (.lt Qm [72] 73 (some 3)
 (.lt Qh [65,69] 76 none
 (.lt Qm [76] 77 (some 3)
 (.call 24 [.agg [73,74,75],.agg [77,78,79]] 80 [none]
 (.lt Q3 [80] 81 none
 (.ite 81
 (.done (.bool false))
 (.lt Q2 [69,J 1] 82 none
 (.again 0 0 [82])))))))))
 (.done (.bool true)))))
 .nil))))))
theorem p18 {l:List FV} (hl:l.length<=1000):jA_ Tryz.prog 18 [d_ l,d_ l] (.bool true):=by
 refine t8_ (sh:=[none,none]) (ls:=[d_ l,d_ l]) (c:=c18) (n:=300) (t:=t18) mo ov rfl (by simp only [okL,p8_]) rfl (λY _=>vE_ _) rfl (by kernel_rfl) λY hf hg=>?_
 unfold t18
 refine vx_ (ak_ l) rfl (vx_ (ak_ l) rfl ?_)
 (refine b_ rfl rfl ?_ ?_<;>intro h<;>simp only [nc]at h<;>try (exfalso;omega))
 refine uK_ (ι:=Nat) (λi=>[.int .i64 (i:Int)]) (λi=>i<=l.length) (λi=>l.length-i) 0 (Nat.zero_le _) rfl (λ_ _=>rfl) (λs s' _ _ h=>by simp at h;omega) (λi hi=>?_)
 refine vx_ (ak_ l) rfl ?_
 (refine b_ rfl rfl ?_ ?_<;>intro h<;>simp only [nc]at h<;>try (exfalso;omega))
 .have hi:i<l.length:=by omega
  refine vx_ (uy_ l hi) (oL_ okV _) (vf_ (uz_ l hi) rfl (okV _) ?_)
  refine vx_ (uy_ l hi) (oL_ okV _) (vf_ (uz_ l hi) rfl (okV _) ?_)
  refine uI_ (p24 l[i]) rfl rfl (vx_ (r:=.bool false) rfl rfl (ve_ (t:=false) rfl (λh=>by cases h) (λ_=>?_)))
  exact vx_ (h_ (by omega) (by omega)) rfl (uv_ rfl ⟨i+1,hi,rfl,by omega⟩)
 .exact uJ_ rfl
theorem xw_ (n:Nat) (h:n<65536):(XOp.conv 23 2).run Tryz.prog [.int .u16 (n:Int)]=some (.int .i64 (n:Int)):=by
 rw [tH_ Tryz.underlying23 Tryz.underlying2,vM_ (by omega) (by omega)]
def J_:Nat->GS->Bool
 |0,_=>false
 |d+1,.mk op to e thn els nm kd ad args=>(decide (op=4)&&decide (kd<=8))||thn.any (J_ d)||els.any (J_ d)
theorem by_ {f g:GS->List FV->Int->RSt}:∀(l:List GS),(∀s∈l,f s=g s)->B_ f l=B_ g l
 |[],_=>rfl
 |s::r,h=>by
  funext mem left
  show (if (f s mem left).e=0 then B_ f r (f s mem left).mem (f s mem left).left else f s mem left)=(if (g s mem left).e=0 then B_ g r (g s mem left).mem (g s mem left).left else g s mem left)
  rw [h s List.mem_cons_self,by_ r λt ht=>h t (List.mem_cons_of_mem _ ht)]
theorem wC_ (a b:Int):∀(d:Nat) (s:GS),TS d s->J_ d s=false->m_ a d s=m_ b d s
 |0,_,h,_=>h.elim
 |d+1,.mk op to e thn els nm kd ad args,h,ht=>by
  have ih:=wC_ a b d
  simp only [J_,Bool.or_eq_false_iff,List.any_eq_false]at ht
  obtain ⟨⟨t1,t2⟩,t3⟩:=ht
  have ht2:∀s∈thn,J_ d s=false:=λs hs=>by simpa using t2 s hs
  have ht3:∀s∈els,J_ d s=false:=λs hs=>by simpa using t3 s hs
  funext mem left
  unfold m_
  rcases h with ⟨h1,_⟩|⟨h1,h2,h3,h4,h5,h6,h7⟩|⟨h1,h2,h3,_⟩
  .rw [if_pos h1,if_pos h1]
  .have e1:=by_ thn λs hs=>ih s (h6 s hs) (ht2 s hs)
   have e2:=by_ els λs hs=>ih s (h7 s hs) (ht3 s hs)
   have e3:∀p:Prop,[Decidable p]->B_ (m_ a d) (if p then thn else els)=B_ (m_ b d) (if p then thn else els):=λp _=>by split<;>assumption
   simp only [e1,e3]
   have n1:¬op=1:=by omega
   simp only [if_neg n1]
   rcases h1 with h1|h1
   .simp only [if_pos h1]
   .have n2:¬op=2:=by omega
    simp only [if_neg n2,if_pos h1]
  .rw [if_neg (by omega),if_neg (by omega),if_neg (by omega),if_neg (by omega),if_neg (by omega),if_neg (by omega)]
   unfold E_
   have hk:kd≠6:=λhk=>by
    rw [h1,hk]at t1
    exact absurd t1 (by decide)
   simp only [G_,if_neg hk]
namespace Beg
abbrev G (l:List (FuncId×List AV×AV)):Gl:=glT gl0 nr0 l
theorem o0: @kQ_ (G []) Tryz.prog:=vI_ gl0 nr0 Tryz.prog
def z5:AV:=.int .i64 1
def z9:AV:=.int .i64 2
def z6:AV:=.int .i64 0
def z7:AV:=.flt .f64 0
def z8:AV:=.int .i64 5
def z0:AV:=.vsl 7 10 [.str [97],z5,z9,z6,z9,z6,z7,z6,z6,z7,.str [98],z5,z5,z6,z5,z6,z7,z6,z6,z7,.str [111],z9,z9,z6,z9,z5,z7,z9,.int .i64 9,z7,.str [110],.int .i64 3,z9,z6,z9,z6,z7,z6,z6,z7,.str [120],.int .i64 3,z9,z6,z9,z6,z7,z6,z6,z7,.str [114],.int .i64 3,z8,z6,z8,z6,z7,z6,z6,z7,.str [107],.int .i64 3,z9,.int .i64 3,z9,z6,z7,z6,z6,z7]
def z4:AV:=.str []
def z1:AV:=.vsl 4 27 [z5,z9,z6,.str [110],z4,z6,z6,z6,z6,z7,.nsl,.int .i64 4,z6,z4,z4,z6,z6,z6,z6,z7,.vsl 2 10 [z9,z6,.str [110],z4,z6,z6,z6,z6,z7,.nsl,z5,z6,z4,z4,z6,z6,.int .i64 3,z5,z7,.nsl],.nsl,.nsl,z4,z6,z6,.nsl,z5,z9,z6,.str [111],z4,z6,z6,z6,z6,z7,.nsl,.int .i64 4,z6,z4,z4,z6,z6,z6,z6,z7,.vsl 2 10 [z9,z6,.str [120],z4,z6,z6,z6,z6,z7,.nsl,z9,z6,.str [97],z4,z6,z6,z6,z6,z7,.nsl],.nsl,.nsl,z4,z6,z6,.nsl,z9,z6,z6,z4,z4,z6,z6,z6,z6,z7,.nsl,z9,z6,.str [98],z4,z6,z6,z6,z6,z7,.nsl,.vsl 1 27 [z5,.int .i64 3,z6,.str [107],z4,z6,z6,z6,z6,z7,.vsl 1 10 [z9,z6,.str [120],z4,z6,z6,z6,z6,z7,.nsl],z9,z6,.str [97],z4,z6,z6,z6,z6,z7,.nsl,.nsl,.nsl,z4,z6,z6,.nsl],.nsl,z4,z6,z6,.nsl,z5,z9,z6,.str [114],z4,z6,z6,z6,z6,z7,.nsl,.int .i64 4,z6,z4,z4,z6,z6,z6,z6,z7,.vsl 2 10 [z9,z6,.str [114],z4,z6,z6,z6,z6,z7,.nsl,z5,z6,z4,z4,z6,z6,z8,z6,.flt .f64 4602678819172646912,.nsl],.nsl,.nsl,z4,z6,z6,.nsl]
def z2:AV:=.vsl 4 27 [z5,z9,z9,.str [110],z4,.int .i64 3,z6,z6,z6,z7,.nsl,.int .i64 4,z9,z4,z4,z6,z6,z6,z6,z7,.vsl 2 10 [z9,z9,.str [110],z4,.int .i64 3,z6,z6,z6,z7,.nsl,z5,z9,z4,z4,z6,z6,z9,z5,z7,.nsl],.nsl,.nsl,z4,z6,z6,.nsl,z5,z9,z9,.str [111],z4,z9,z6,z6,z6,z7,.nsl,.int .i64 4,z9,z4,z4,z6,z6,z6,z6,z7,.vsl 2 10 [z9,z9,.str [120],z4,.int .i64 4,z6,z6,z6,z7,.nsl,z9,z9,.str [97],z4,z6,z6,z6,z6,z7,.nsl],.nsl,.nsl,z4,z6,z6,.nsl,z9,z6,z6,z4,z4,z6,z6,z6,z6,z7,.nsl,z9,z5,.str [98],z4,z5,z6,z6,z6,z7,.nsl,.vsl 1 27 [z5,.int .i64 3,z9,.str [107],z4,.int .i64 6,.int .i64 3,z6,z6,z7,.vsl 1 10 [z9,z9,.str [120],z4,.int .i64 4,z6,z6,z6,z7,.nsl],z9,z9,.str [97],z4,z6,z6,z6,z6,z7,.nsl,.nsl,.nsl,z4,z6,z6,.nsl],.nsl,z4,z6,z6,.nsl,z5,z9,z8,.str [114],z4,z8,z6,z6,z6,z7,.nsl,.int .i64 4,z8,z4,z4,z6,z6,z6,z6,z7,.vsl 2 10 [z9,z8,.str [114],z4,z8,z6,z6,z6,z7,.nsl,z5,z8,z4,z4,z6,z6,z8,z6,.flt .f64 4602678819172646912,.nsl],.nsl,.nsl,z4,z6,z6,.nsl]
def z3:AV:=.str [105,110,32,97,32,58,32,105,110,116,59,32,105,110,32,98,32,58,32,98,111,111,108,59,32,111,117,116,32,111,32,58,32,105,110,116,32,58,61,32,49,44,32,57,59,32,118,97,114,32,110,32,58,32,105,110,116,59,32,118,97,114,32,120,32,58,32,105,110,116,59,32,118,97,114,32,114,32,58,32,114,101,97,108,59,32,118,97,114,32,107,32,58,32,105,110,116,91,51,93,59,32,110,32,58,61,32,110,32,43,32,49,59,32,111,32,58,61,32,120,32,43,32,97,59,32,105,102,32,98,32,116,104,101,110,32,107,91,120,93,32,58,61,32,97,59,32,101,110,100,32,114,32,58,61,32,114,32,43,32,48,46,53,59]
def a0:List AV:=[z3]
def v0:AV:=.tup [.vsl 71 5 [z5,.str [105,110],z6,z7,z6,z5,.str [97],z6,z7,.int .i64 3,z8,.str [58],z6,z7,z8,z5,.str [105,110,116],z6,z7,.int .i64 7,z8,.str [59],z6,z7,.int .i64 10,z5,.str [105,110],z6,z7,.int .i64 12,z5,.str [98],z6,z7,.int .i64 15,z8,.str [58],z6,z7,.int .i64 17,z5,.str [98,111,111,108],z6,z7,.int .i64 19,z8,.str [59],z6,z7,.int .i64 23,z5,.str [111,117,116],z6,z7,.int .i64 25,z5,.str [111],z6,z7,.int .i64 29,z8,.str [58],z6,z7,.int .i64 31,z5,.str [105,110,116],z6,z7,.int .i64 33,z8,.str [58,61],z6,z7,.int .i64 37,z9,z4,z5,z7,.int .i64 40,z8,.str [44],z6,z7,.int .i64 41,z9,z4,.int .i64 9,z7,.int .i64 43,z8,.str [59],z6,z7,.int .i64 44,z5,.str [118,97,114],z6,z7,.int .i64 46,z5,.str [110],z6,z7,.int .i64 50,z8,.str [58],z6,z7,.int .i64 52,z5,.str [105,110,116],z6,z7,.int .i64 54,z8,.str [59],z6,z7,.int .i64 57,z5,.str [118,97,114],z6,z7,.int .i64 59,z5,.str [120],z6,z7,.int .i64 63,z8,.str [58],z6,z7,.int .i64 65,z5,.str [105,110,116],z6,z7,.int .i64 67,z8,.str [59],z6,z7,.int .i64 70,z5,.str [118,97,114],z6,z7,.int .i64 72,z5,.str [114],z6,z7,.int .i64 76,z8,.str [58],z6,z7,.int .i64 78,z5,.str [114,101,97,108],z6,z7,.int .i64 80,z8,.str [59],z6,z7,.int .i64 84,z5,.str [118,97,114],z6,z7,.int .i64 86,z5,.str [107],z6,z7,.int .i64 90,z8,.str [58],z6,z7,.int .i64 92,z5,.str [105,110,116],z6,z7,.int .i64 94,z8,.str [91],z6,z7,.int .i64 97,z9,z4,.int .i64 3,z7,.int .i64 98,z8,.str [93],z6,z7,.int .i64 99,z8,.str [59],z6,z7,.int .i64 100,z5,.str [110],z6,z7,.int .i64 102,z8,.str [58,61],z6,z7,.int .i64 104,z5,.str [110],z6,z7,.int .i64 107,z8,.str [43],z6,z7,.int .i64 109,z9,z4,z5,z7,.int .i64 111,z8,.str [59],z6,z7,.int .i64 112,z5,.str [111],z6,z7,.int .i64 114,z8,.str [58,61],z6,z7,.int .i64 116,z5,.str [120],z6,z7,.int .i64 119,z8,.str [43],z6,z7,.int .i64 121,z5,.str [97],z6,z7,.int .i64 123,z8,.str [59],z6,z7,.int .i64 124,z5,.str [105,102],z6,z7,.int .i64 126,z5,.str [98],z6,z7,.int .i64 129,z5,.str [116,104,101,110],z6,z7,.int .i64 131,z5,.str [107],z6,z7,.int .i64 136,z8,.str [91],z6,z7,.int .i64 137,z5,.str [120],z6,z7,.int .i64 138,z8,.str [93],z6,z7,.int .i64 139,z8,.str [58,61],z6,z7,.int .i64 141,z5,.str [97],z6,z7,.int .i64 144,z8,.str [59],z6,z7,.int .i64 145,z5,.str [101,110,100],z6,z7,.int .i64 147,z5,.str [114],z6,z7,.int .i64 151,z8,.str [58,61],z6,z7,.int .i64 153,z5,.str [114],z6,z7,.int .i64 156,z8,.str [43],z6,z7,.int .i64 158,.int .i64 3,z4,z6,.flt .f64 4602678819172646912,.int .i64 160,z8,.str [59],z6,z7,.int .i64 163],z6,.bool true]
theorem e0: @uV_ (G []) Tryz.prog 3000 62 a0 v0=true:=by kernel_rfl
def l1:List (FuncId×List AV×AV):=(62,a0,v0)::[]
theorem o1: @kQ_ (G l1) Tryz.prog:=vo_ o0 (@vk_ (G []) Tryz.prog mo o0 3000 62 a0 v0 e0)
def a1:List AV:=[.agg [z9,z6,.str [110],z4,z6,z6,z6,z6,z7,.nsl]]
def v1:AV:=z5
theorem e1: @uV_ (G l1) Tryz.prog 3000 111 a1 v1=true:=by kernel_rfl
def l2:List (FuncId×List AV×AV):=(111,a1,v1)::l1
theorem o2: @kQ_ (G l2) Tryz.prog:=vo_ o1 (@vk_ (G l1) Tryz.prog mo o1 3000 111 a1 v1 e1)
def a2:List AV:=[.agg [z5,z6,z4,z4,z6,z6,.int .i64 3,z5,z7,.nsl]]
def v2:AV:=z5
theorem e2: @uV_ (G l2) Tryz.prog 3000 111 a2 v2=true:=by kernel_rfl
def l3:List (FuncId×List AV×AV):=(111,a2,v2)::l2
theorem o3: @kQ_ (G l3) Tryz.prog:=vo_ o2 (@vk_ (G l2) Tryz.prog mo o2 3000 111 a2 v2 e2)
def a3:List AV:=[.nsl]
def v3:AV:=z6
theorem e3: @uV_ (G l3) Tryz.prog 3000 67 a3 v3=true:=by kernel_rfl
def l4:List (FuncId×List AV×AV):=(67,a3,v3)::l3
theorem o4: @kQ_ (G l4) Tryz.prog:=vo_ o3 (@vk_ (G l3) Tryz.prog mo o3 3000 67 a3 v3 e3)
def a4:List AV:=[.agg [z9,z6,.str [111],z4,z6,z6,z6,z6,z7,.nsl]]
def v4:AV:=z5
theorem e4: @uV_ (G l4) Tryz.prog 3000 111 a4 v4=true:=by kernel_rfl
def l5:List (FuncId×List AV×AV):=(111,a4,v4)::l4
theorem o5: @kQ_ (G l5) Tryz.prog:=vo_ o4 (@vk_ (G l4) Tryz.prog mo o4 3000 111 a4 v4 e4)
def a5:List AV:=[.agg [z9,z6,.str [120],z4,z6,z6,z6,z6,z7,.nsl]]
def v5:AV:=z5
theorem e5: @uV_ (G l5) Tryz.prog 3000 111 a5 v5=true:=by kernel_rfl
def l6:List (FuncId×List AV×AV):=(111,a5,v5)::l5
theorem o6: @kQ_ (G l6) Tryz.prog:=vo_ o5 (@vk_ (G l5) Tryz.prog mo o5 3000 111 a5 v5 e5)
def a6:List AV:=[.agg [z9,z6,.str [97],z4,z6,z6,z6,z6,z7,.nsl]]
def v6:AV:=z5
theorem e6: @uV_ (G l6) Tryz.prog 3000 111 a6 v6=true:=by kernel_rfl
def l7:List (FuncId×List AV×AV):=(111,a6,v6)::l6
theorem o7: @kQ_ (G l7) Tryz.prog:=vo_ o6 (@vk_ (G l6) Tryz.prog mo o6 3000 111 a6 v6 e6)
def a7:List AV:=[.agg [z6,z6,z4,z4,z6,z6,z6,z6,z7,.nsl]]
def v7:AV:=z6
theorem e7: @uV_ (G l7) Tryz.prog 3000 111 a7 v7=true:=by kernel_rfl
def l8:List (FuncId×List AV×AV):=(111,a7,v7)::l7
theorem o8: @kQ_ (G l8) Tryz.prog:=vo_ o7 (@vk_ (G l7) Tryz.prog mo o7 3000 111 a7 v7 e7)
def a8:List AV:=[.agg [z9,z6,.str [98],z4,z6,z6,z6,z6,z7,.nsl]]
def v8:AV:=z5
theorem e8: @uV_ (G l8) Tryz.prog 3000 111 a8 v8=true:=by kernel_rfl
def l9:List (FuncId×List AV×AV):=(111,a8,v8)::l8
theorem o9: @kQ_ (G l9) Tryz.prog:=vo_ o8 (@vk_ (G l8) Tryz.prog mo o8 3000 111 a8 v8 e8)
def a9:List AV:=[.agg [z9,z6,.str [114],z4,z6,z6,z6,z6,z7,.nsl]]
def v9:AV:=z5
theorem e9: @uV_ (G l9) Tryz.prog 3000 111 a9 v9=true:=by kernel_rfl
def l10:List (FuncId×List AV×AV):=(111,a9,v9)::l9
theorem o10: @kQ_ (G l10) Tryz.prog:=vo_ o9 (@vk_ (G l9) Tryz.prog mo o9 3000 111 a9 v9 e9)
def a10:List AV:=[.agg [z5,z6,z4,z4,z6,z6,z8,z6,.flt .f64 4602678819172646912,.nsl]]
def v10:AV:=z5
theorem e10: @uV_ (G l10) Tryz.prog 3000 111 a10 v10=true:=by kernel_rfl
def l11:List (FuncId×List AV×AV):=(111,a10,v10)::l10
theorem o11: @kQ_ (G l11) Tryz.prog:=vo_ o10 (@vk_ (G l10) Tryz.prog mo o10 3000 111 a10 v10 e10)
def a11:List AV:=[z3]
def v11:AV:=.tup [.agg [z0,z1],z6,.bool true]
theorem e11: @uV_ (G l11) Tryz.prog 3000 35 a11 v11=true:=by kernel_rfl
def l12:List (FuncId×List AV×AV):=(35,a11,v11)::l11
theorem o12: @kQ_ (G l12) Tryz.prog:=vo_ o11 (@vk_ (G l11) Tryz.prog mo o11 3000 35 a11 v11 e11)
def a12:List AV:=[z0]
def v12:AV:=z6
theorem e12: @uV_ (G l12) Tryz.prog 3000 45 a12 v12=true:=by kernel_rfl
def l13:List (FuncId×List AV×AV):=(45,a12,v12)::l12
theorem o13: @kQ_ (G l13) Tryz.prog:=vo_ o12 (@vk_ (G l12) Tryz.prog mo o12 3000 45 a12 v12 e12)
def a13:List AV:=[z0,.vsl 1 27 [z5,.int .i64 3,z6,.str [107],z4,z6,z6,z6,z6,z7,.vsl 1 10 [z9,z6,.str [120],z4,z6,z6,z6,z6,z7,.nsl],z9,z6,.str [97],z4,z6,z6,z6,z6,z7,.nsl,.nsl,.nsl,z4,z6,z6,.nsl]]
def v13:AV:=.tup [.vsl 1 27 [z5,.int .i64 3,z9,.str [107],z4,.int .i64 6,.int .i64 3,z6,z6,z7,.vsl 1 10 [z9,z9,.str [120],z4,.int .i64 4,z6,z6,z6,z7,.nsl],z9,z9,.str [97],z4,z6,z6,z6,z6,z7,.nsl,.nsl,.nsl,z4,z6,z6,.nsl],z6]
theorem e13: @uV_ (G l13) Tryz.prog 3000 46 a13 v13=true:=by kernel_rfl
def l14:List (FuncId×List AV×AV):=(46,a13,v13)::l13
theorem o14: @kQ_ (G l14) Tryz.prog:=vo_ o13 (@vk_ (G l13) Tryz.prog mo o13 3000 46 a13 v13 e13)
def a14:List AV:=[z0,.nsl]
def v14:AV:=.tup [.nsl,z6]
theorem e14: @uV_ (G l14) Tryz.prog 3000 46 a14 v14=true:=by kernel_rfl
def l15:List (FuncId×List AV×AV):=(46,a14,v14)::l14
theorem o15: @kQ_ (G l15) Tryz.prog:=vo_ o14 (@vk_ (G l14) Tryz.prog mo o14 3000 46 a14 v14 e14)
def a15:List AV:=[z0,z1]
def v15:AV:=.tup [z2,z6]
theorem e15: @uV_ (G l15) Tryz.prog 3000 46 a15 v15=true:=by kernel_rfl
def l16:List (FuncId×List AV×AV):=(46,a15,v15)::l15
theorem o16: @kQ_ (G l16) Tryz.prog:=vo_ o15 (@vk_ (G l15) Tryz.prog mo o15 3000 46 a15 v15 e15)
def a16:List AV:=[.agg [z0,z1]]
def v16:AV:=.tup [.agg [z0,z2],z6]
theorem e16: @uV_ (G l16) Tryz.prog 3000 19 a16 v16=true:=by kernel_rfl
def l17:List (FuncId×List AV×AV):=(19,a16,v16)::l16
theorem o17: @kQ_ (G l17) Tryz.prog:=vo_ o16 (@vk_ (G l16) Tryz.prog mo o16 3000 19 a16 v16 e16)
theorem eb: @uV_ (G l17) Tryz.prog 3000 12 [] (.bool true)=true:=by kernel_rfl
end Beg
theorem k12:jA_ Tryz.prog 12 [] (.bool true):= @vk_ (Beg.G Beg.l17) Tryz.prog mo Beg.o17 3000 12 [] (.bool true) Beg.eb
def c38:VC:=⟨⟨[],[]⟩,[(20,[none])],[],1,true,[(70,ft70)]⟩
def t38:VT:=
 (.call 20 [] 66 [none]
 (.callF 70 ft70 [64,65,J 5,J 2] 67
 (.cons 2
 (.done (.tup [J 0,66,71,72]))
 .nil)))
def c14:VC:=⟨⟨[],[]⟩,[],[],0,true,[]⟩
def t14:VT:=
 (.done (.tup [J 0]))
def c19:VC:=⟨⟨[],[]⟩,[(45,[none])],[],0,true,[(46,ft46)]⟩
def t19:VT:=
 (.call 45 [64] 66 [none]
 (.lt Q5 [66,J 0] 67 none
 (.ite 67
 (.done (.tup [J 0,.nsl,.nsl,66]))
 (.callF 46 ft46 [64,65] 68
 (.cons 2
 (.lt Q5 [71,J 0] 72 none
 (.ite 72
 (.done (.tup [J 0,.nsl,.nsl,71]))
 (.lt (.app 10 88) [.vsl 0 10 [],64] 73 none
 (.done (.tup [J 0,73,70,J 0])))))
 .nil)))))
def c13:VC:=⟨⟨[],[]⟩,[],[],0,true,[(14,ft14),(38,ft38),(19,ft19)]⟩
def t13:VT:=
 (.callF 14 ft14 [64] 65
 (.cons 0
 (.callF 38 ft38 [64,J 0] 66
 (.cons 3
 (.callF 19 ft19 [68,69] 71
 (.cons 3
 (.lt Z6 [75,J 0] 76 none
 (.done (.tup [J 0,73,74,76])))
 .nil))
 .nil))
 .nil))
def R19 (l:List UInt8):Nat->List AV->Prop:=λ_ ws=>∃(b:List GS) (n:Nat),ws=[VARS,q_ b,.int .i64 (n:Int)]/\b.length<=5/\∀s∈b,WS 3 s
theorem p38 {l:List UInt8} {a:AV} (hp:Pk l a):CF Tryz.prog 38 ft38 [a,.int .i64 0] (R19 l):=by
 have hA:=hp.1.ok vj_
 refine vh_ (c:=c38) (n:=300) (t:=t38) mo ov rfl (λY _=>vE_ _) (by kernel_rfl) λY hf hg=>?_
 unfold t38
 refine uI_ k37 rfl rfl ?_
 refine a_ ((pS hp 2 (by decide)).2 0 5 (Nat.zero_le _) (by decide) (by decide)) rfl (okR hA) ⟨?_,trivial⟩
 rintro ws ⟨b,n,rfl,⟨h1,h2⟩,h3⟩
 exact VOK_fin (by show okL [VARS,q_ b,.int .i64 (n:Int)]=true;rw [aY_];simp only [okL,okC,okB];rfl) ⟨b,n,rfl,h1,h2⟩
theorem p14 (a:AV) (h:okC a=true):CF Tryz.prog 14 ft14 [a] (λ_ ws=>ws=[]):=by
 refine vh_ (c:=c14) (n:=300) (t:=t14) mo ov rfl (λY _=>vE_ _) (by kernel_rfl) λY hf hg=>?_
 unfold t14
 exact VOK_fin rfl rfl
def RC (l:List GS):Nat->List AV->Prop:=λ_ ws=>∃(v:AV) (b:List GS) (e:Int),ws=[v,q_ b,.int .i64 e]/\okC v=true/\(e≠0->b=[])/\(e=0->v=VARS/\b.length=l.length/\(∀s∈b,TS 3 s)/\LKs l b)
theorem yO_ {v:AV} (hv:okC v=true) (b:List GS) {x:AV} (hx:okC x=true):okL [v,q_ b,x]=true:=by simp only [okL,hv,okB,hx]
theorem p19 (b:List GS) (hl:b.length<=5) (h:∀s∈b,WS 3 s):CF Tryz.prog 19 ft19 [VARS,q_ b] (RC b):=by
 refine vh_ (c:=c19) (n:=300) (t:=t19) mo ov rfl (λY _=>vE_ _) (by kernel_rfl) λY hf hg=>?_
 unfold t19
 refine uI_ k35 rfl rfl ?_
 (refine b_ rfl rfl ?_ ?_<;>intro h<;>simp only [nc]at h<;>try (exfalso;omega))
 refine a_ (p46 3 (p78 3) b hl (by assumption)) rfl (yu_ _) ⟨?_,trivial⟩
 rintro ws ⟨b',e,rfl,hb⟩
 (refine b_ rfl rfl ?_ ?_<;>intro h<;>simp only [nc]at h<;>try (exfalso;omega))
 .exact VOK_fin rfl ⟨.nsl,[],e,rfl,rfl,λ_=>rfl,λhe=>absurd he (by assumption)⟩
 .have hb:=hb (by assumption)
  refine vx_ (r:=VARS) rfl rfl (VOK_fin (yO_ (v:=VARS) rfl b' (x:=.int .i64 0) rfl) ⟨VARS,b',0,rfl,rfl,λhe=>absurd rfl he,λ_=>⟨rfl,hb⟩⟩)
def R7:Nat->List AV->Prop:=λ_ ws=>∃(v:AV) (b:List GS) (e:Bool),ws=[v,q_ b,.bool e]/\okC v=true/\(e=false->b=[])/\(e=true->v=VARS/\b.length<=5/\∀s∈b,TS 3 s)
theorem p13 {l:List UInt8} {a:AV} (hp:Pk l a):CF Tryz.prog 13 ft13 [a] R7:=by
 have hA:=hp.1.ok vj_
 refine vh_ (c:=c13) (n:=300) (t:=t13) mo ov rfl (λY _=>vE_ _) (by kernel_rfl) λY hf hg=>?_
 unfold t13
 refine a_ (p14 a hA) rfl (by simp only [okL,hA]) ⟨?_,trivial⟩
 rintro ws rfl
 refine a_ (p38 hp) rfl (by simp only [okL,hA,okC]) ⟨?_,trivial⟩
 rintro ws ⟨b,n,rfl,h1,h2⟩
 refine a_ (p19 b h1 h2) rfl (yu_ _) ⟨?_,trivial⟩
 rintro ws ⟨v,b',e,rfl,hv,h0,hb⟩
 refine vx_ (run_eql ..) rfl (VOK_fin (yO_ hv b' (x:=.bool _) rfl) ⟨v,b',decide (e=0),rfl,hv,λhe=>h0 (by simpa using he),λhe=>by obtain ⟨q1,q2,q3,_⟩:=hb (of_decide_eq_true he);exact ⟨q1,by omega,q3⟩⟩)
theorem xb_ {α:Type} {enc:α->List AV} {p:List AV->Prop} {q:α->Prop} (h:∀r,p r->∃a,r=enc a/\q a):∀rows:List (List AV),(∀r,r∈rows->p r)->∃l:List α,rows.flatten=bA_ enc l/\l.length=rows.length/\∀a,a∈l->q a
 |[],_=>⟨[],rfl,rfl,λa h=>by cases h⟩
 |r::rows,hr=>by
  obtain ⟨a,rfl,ha⟩:=h r (hr r (List.mem_cons_self ..))
  obtain ⟨l,h1,h2,h3⟩:=xb_ h rows λr h=>hr r (List.mem_cons_of_mem _ h)
  refine ⟨a::l,by rw [List.flatten_cons,h1];rfl,by simp [h2],λb hb=>?_⟩
  rcases List.mem_cons.1 hb with rfl|hb
  .exact ha
  .exact h3 b hb
theorem zb_ {r:List AV} (h:Sx.Fit Tryz.prog 5 r):∃c:UInt8,r=tX_ c/\True:=by
 obtain ⟨n,rfl,hn⟩:=tw_ Tryz.underlying5 h
 have hn:0<=n/\n<=255:=by simpa [Lit.wf,IntKind.min,IntKind.max,IntKind.bits,IntKind.signed]using hn
 refine ⟨n.toNat.toUInt8,?_,trivial⟩
 have:((n.toNat.toUInt8).toNat:Int)=n:=by
  have h1:n.toNat.toUInt8.toNat=n.toNat:=by
   simp only [Nat.toUInt8,UInt8.toNat_ofNat'];omega
  rw [h1];omega
 unfold tX_
 rw [this]
theorem arg_u8s {H:Type} {enc:TypeId×Value->H} {W:World} {base:Nat} {v:Value} {dd:DataW H} {p ps:List MemPlace} (hok:Value.okWide Tryz.prog W .any base 22 v)
  (h:DataW.Trod enc Tryz.prog W 0 (λ_=>true) true 22 v dd p) (hps:∀q,q∈p->q∈ps):∃(l:List UInt8) (a:AV),SlV tX_ 1 l a/\True/\l.length<=maxLen/\Con (j9_ (lk_ W ps)) a v:=by
 rcases ux_ (d:=5) Tryz.underlying22 (by kernel_rfl) hok h hps with rfl|⟨rows,h1,h2,h3,h4⟩
 .exact ⟨[],.nsl,.inr ⟨rfl,rfl⟩,trivial,Nat.zero_le _,by simp only [Con]⟩
 .obtain ⟨l,k1,k2,k3⟩:=xb_ (enc:=tX_) (q:=λ_=>True) (λr hr=>zb_ hr) rows h1
  have hc:Tryz.prog.cellsOf 5=1:=by kernel_rfl
  refine ⟨l,pD_ tX_ 1 l,.inl rfl,trivial,by omega,?_⟩
  have h4':=h4
  rw [k1,hc,←k2]at h4'
  exact h4'
def CJ_:GS->List AV
 | .mk op to e thn els nm kd ad args=>[q_ thn,q_ els,.str nm,.int .i64 kd,.int .i64 ad,y_ args]
def GS.e:GS->GX
 | .mk op to e thn els nm kd ad args=>e
def c26:VC:=⟨⟨[],[]⟩,[(26,[none])],[(0,[⟨[(3,.slx 0 0 0),(0,64)],[],0,1,[],[],[]⟩])],0,true,[]⟩
def t26:VT:=
 (.loop 65 0 [J 0]
 (.cons 1
 (.lt Z5 [64] 66 none
 (.lt Q4 [65,66] 67 none
 (.ite 67
 (.lt Qw [64,65] 68 none
 (.lt (.faddr 52 0) [68] 69 none
 (.lt Qs [69] 70 none
 (.lt Q0 [70,J 4] 71 none
 (.ite 71
 (.lt Qw [64,65] 72 none
 (.lt (.faddr 52 6) [72] 73 none
 (.lt Qs [73] 74 none
 (.lt Qv [74,J 8] 75 none
 (.ite 75
 (.done (.bool true))
 (.lt Qw [64,65] 76 none
 (.lt (.faddr 52 3) [76] 77 none
 (.lt Zw [77] 78 none
 (.call 26 [78] 79 [none]
 (.ite 79
 (.done (.bool true))
 (.lt Qw [64,65] 80 none
 (.lt (.faddr 52 4) [80] 81 none
 (.lt Zw [81] 82 none
 (.call 26 [82] 83 [none]
 (.ite 83
 (.done (.bool true))
 (.lt Q2 [65,J 1] 84 none
 (.again 0 0 [84])))))))))))))))))
 (.lt Qw [64,65] 72 none
 (.lt (.faddr 52 3) [72] 73 none
 (.lt Zw [73] 74 none
 (.call 26 [74] 75 [none]
 (.ite 75
 (.done (.bool true))
 (.lt Qw [64,65] 76 none
 (.lt (.faddr 52 4) [76] 77 none
 (.lt Zw [77] 78 none
 (.call 26 [78] 79 [none]
 (.ite 79
 (.done (.bool true))
 (.lt Q2 [65,J 1] 80 none
 (.again 0 0 [80])))))))))))))))))
 (.done (.bool false)))))
 .nil))
def c7:VC:=⟨⟨[],[]⟩,[(12,[none]),(18,[none]),(26,[none])],[],0,true,[(13,ft13),(14,ft14),(15,ft15),(16,ft16)]⟩
def t7:VT:=
 (.call 12 [] 68 [none]
 (.lt Q3 [68] 69 none
 (.ite 69
 (.done (.bool false))
 (.lt Qp [64] 70 none
 (.lt Qe [70,J 200] 71 none
 (.ite 71
 (.done (.bool true))
 (.lt Qp [65] 72 none
 (.lt Qe [72,J 60] 73 none
 (.ite 73
 (.done (.bool true))
 (.callF 13 ft13 [64] 74
 (.cons 3
 (.lt Q3 [77] 78 none
 (.ite 78
 (.done (.bool true))
 (.call 26 [76] 79 [none]
 (.ite 79
 (.done (.bool true))
 (.callF 14 ft14 [65] 80
 (.cons 0
 (.callF 15 ft15 [65,J 0] 81
 (.cons 2
 (.lt Zi [66] 85 none
 (.callF 16 ft16 [75,76,83,85,J 60] 86
 (.cons 2
 (.lt Zi [67] 93 none
 (.callF 16 ft16 [75,76,83,93,J 60] 94
 (.cons 2
 (.lt Ze [92,100] 101 none
 (.ite 101
 (.call 18 [91,99] 102 [none]
 (.done (102)))
 (.done (.bool false))))
 .nil)))
 .nil)))
 .nil))
 .nil))))))
 .nil)))))))))))
theorem y7_ (l:List GS) {i:Nat} (h:i<l.length):∃r,(XOp.faddr 52 0).run Tryz.prog [.vptr (bA_ o_ (l.drop i))]=some (.vptr r)/\okL r=true/\(XOp.load 3).run Tryz.prog [.vptr r]=some (.int .i64 (match l[i]with| .mk op .. =>op)):=by
 refine ⟨_,?_,oL_ okS (l.drop i),?_⟩
 .rw [List.drop_eq_getElem_cons h]
  rcases l[i]with ⟨op,⟨to1,to2,to3,to4,to5,to6,to7,to8,to9,to10⟩,⟨e1,e2,e3,e4,e5,e6,e7,e8,e9,e10⟩,thn,els,nm,kd,ad,args⟩
  rfl
 .rw [List.drop_eq_getElem_cons h]
  rcases l[i]with ⟨op,to,e,thn,els,nm,kd,ad,args⟩
  exact s2_ Tryz.underlying3 rfl _ _
theorem y8_ (l:List GS) {i:Nat} (h:i<l.length):∃r,(XOp.faddr 52 3).run Tryz.prog [.vptr (bA_ o_ (l.drop i))]=some (.vptr r)/\okL r=true/\(XOp.load 26).run Tryz.prog [.vptr r]=some (match l[i]with| .mk _ _ _ thn .. =>q_ thn):=by
 rw [List.drop_eq_getElem_cons h]
 rcases hs:l[i]with ⟨op,⟨to1,to2,to3,to4,to5,to6,to7,to8,to9,to10⟩,⟨e1,e2,e3,e4,e5,e6,e7,e8,e9,e10⟩,thn,els,nm,kd,ad,args⟩
 refine ⟨[q_ thn,q_ els,.str nm,.int .i64 kd,.int .i64 ad,y_ args]++bA_ o_ (l.drop (i+1)),rfl,oL_.okL_join (by simp only [okL,okC,okA,okB]) (oL_ okS _),?_⟩
 exact s2_ Tryz.underlying26 rfl _ _
theorem y9_ (l:List GS) {i:Nat} (h:i<l.length):∃r,(XOp.faddr 52 4).run Tryz.prog [.vptr (bA_ o_ (l.drop i))]=some (.vptr r)/\okL r=true/\(XOp.load 26).run Tryz.prog [.vptr r]=some (match l[i]with| .mk _ _ _ _ els .. =>q_ els):=by
 rw [List.drop_eq_getElem_cons h]
 rcases hs:l[i]with ⟨op,⟨to1,to2,to3,to4,to5,to6,to7,to8,to9,to10⟩,⟨e1,e2,e3,e4,e5,e6,e7,e8,e9,e10⟩,thn,els,nm,kd,ad,args⟩
 refine ⟨[q_ els,.str nm,.int .i64 kd,.int .i64 ad,y_ args]++bA_ o_ (l.drop (i+1)),rfl,oL_.okL_join (by simp only [okL,okC,okA,okB]) (oL_ okS _),?_⟩
 exact s2_ Tryz.underlying26 rfl _ _
theorem za_ (l:List GS) {i:Nat} (h:i<l.length):∃r,(XOp.faddr 52 6).run Tryz.prog [.vptr (bA_ o_ (l.drop i))]=some (.vptr r)/\okL r=true/\(XOp.load 3).run Tryz.prog [.vptr r]=some (.int .i64 (match l[i]with| .mk _ _ _ _ _ _ kd .. =>kd)):=by
 rw [List.drop_eq_getElem_cons h]
 rcases hs:l[i]with ⟨op,⟨to1,to2,to3,to4,to5,to6,to7,to8,to9,to10⟩,⟨e1,e2,e3,e4,e5,e6,e7,e8,e9,e10⟩,thn,els,nm,kd,ad,args⟩
 refine ⟨[.int .i64 kd,.int .i64 ad,y_ args]++bA_ o_ (l.drop (i+1)),rfl,oL_.okL_join (by simp only [okL,okC,okA,okB]) (oL_ okS _),?_⟩
 exact s2_ Tryz.underlying3 rfl _ _
theorem p26:∀(d:Nat) (l:List GS),l.length<=5->(∀s∈l,TS d s)->jA_ Tryz.prog 26 [q_ l] (.bool (l.any (J_ d)))
 |d,l,hL,hT=>by
  refine t8_ (sh:=[none]) (ls:=[q_ l]) (c:=c26) (n:=300) (t:=t26) mo ov rfl (by simp only [okL,okB]) rfl (λY _=>vE_ _) rfl (by kernel_rfl) λY hf hg=>?_
  unfold t26
  generalize hres:l.any (J_ d)=res at*
  refine uK_ (ι:=Nat) (λi=>[.int .i64 (i:Int)]) (λi=>i<=l.length/\(l.drop i).any (J_ d)=res) (λi=>l.length-i) 0 ⟨Nat.zero_le _,hres⟩ rfl (λ_ _=>rfl) (λs s' _ _ h=>by simp at h;omega) (λi hi=>?_)
  obtain ⟨hi1,hi2⟩:=hi
  refine vx_ (vl_ l) rfl ?_
  (refine b_ rfl rfl ?_ ?_<;>intro h<;>simp only [nc]at h<;>try (exfalso;omega))
  .have hi:i<l.length:=by omega
   obtain ⟨r0,a0,b0,d0⟩:=y7_ l hi
   obtain ⟨r3,a3,b3,d3⟩:=y8_ l hi
   obtain ⟨r4,a4,b4,d4⟩:=y9_ l hi
   obtain ⟨r6,a6,b6,d6⟩:=za_ l hi
   have hs:=hT l[i] (List.getElem_mem hi)
   rw [List.drop_eq_getElem_cons hi,List.any_cons]at hi2
   have hia:=vY_ l hi
   obtain ⟨e,rfl⟩:∃e,d=e+1:=by
    cases d with
    |zero=>exact absurd hs (by cases l[i];exact id)
    |succ d=>exact ⟨d,rfl⟩
   have ih:=p26 e
   generalize l[i]=s at*
   obtain ⟨op,to,ex,thn,els,nm,kd,ad,args⟩:=s
   simp only at d0 d3 d4 d6
   have hth:thn.length<=5/\(∀s∈thn,TS e s)/\els.length<=5/\∀s∈els,TS e s:=by
    rcases hs with ⟨_,_,_,_,_,rfl,rfl⟩|⟨_,_,_,h4,h5,h6,h7⟩|⟨_,_,_,rfl,rfl⟩
    .exact ⟨Nat.zero_le _,λs h=>(List.not_mem_nil h).elim,Nat.zero_le _,λs h=>(List.not_mem_nil h).elim⟩
    .exact ⟨h4,h6,h5,h7⟩
    .exact ⟨Nat.zero_le _,λs h=>(List.not_mem_nil h).elim,Nat.zero_le _,λs h=>(List.not_mem_nil h).elim⟩
   have it:=ih thn hth.1 hth.2.1
   have ie:=ih els hth.2.2.1 hth.2.2.2
   simp only [J_]at hi2
   generalize thn.any (J_ e)=bt at*
   generalize els.any (J_ e)=be at*
   refine vx_ hia (oL_ okS _) (vx_ a0 b0 (vx_ d0 rfl ?_))
   (refine b_ rfl rfl ?_ ?_<;>intro h<;>simp only [nc]at h<;>try (exfalso;omega))
   .refine vx_ hia (oL_ okS _) (vx_ a6 b6 (vx_ d6 rfl ?_))
    rw [decide_eq_true h]at hi2
    (refine b_ rfl rfl ?_ ?_<;>intro h<;>simp only [nc]at h<;>try (exfalso;omega))
    .rw [decide_eq_true h]at hi2
     exact uJ_ (congrArg AV.bool (by simpa using hi2))
    .rw [decide_eq_false (by omega)]at hi2
     simp only [Bool.false_and,Bool.and_false,Bool.false_or]at hi2
     refine vx_ hia (oL_ okS _) (vx_ a3 b3 (vx_ d3 (okB _) (uI_ it rfl rfl (ve_ rfl (λh=>?_) (λh=>?_)))))
     .rw [h]at hi2
      exact uJ_ (congrArg AV.bool (by simpa using hi2))
     .rw [h,Bool.false_or]at hi2
      refine vx_ hia (oL_ okS _) (vx_ a4 b4 (vx_ d4 (okB _) (uI_ ie rfl rfl (ve_ rfl (λh=>?_) (λh=>?_)))))
      .rw [h]at hi2
       exact uJ_ (congrArg AV.bool (by simpa using hi2))
      .rw [h,Bool.false_or]at hi2
       exact vx_ (h_ (by omega) (by omega)) rfl (uv_ rfl ⟨i+1,⟨hi,hi2⟩,rfl,by omega⟩)
   .rw [decide_eq_false h]at hi2
    simp only [Bool.false_and,Bool.and_false,Bool.false_or]at hi2
    refine vx_ hia (oL_ okS _) (vx_ a3 b3 (vx_ d3 (okB _) (uI_ it rfl rfl (ve_ rfl (λh=>?_) (λh=>?_)))))
    .rw [h]at hi2
     exact uJ_ (congrArg AV.bool (by simpa using hi2))
    .rw [h,Bool.false_or]at hi2
     refine vx_ hia (oL_ okS _) (vx_ a4 b4 (vx_ d4 (okB _) (uI_ ie rfl rfl (ve_ rfl (λh=>?_) (λh=>?_)))))
     .rw [h]at hi2
      exact uJ_ (congrArg AV.bool (by simpa using hi2))
     .rw [h,Bool.false_or]at hi2
      exact vx_ (h_ (by omega) (by omega)) rfl (uv_ rfl ⟨i+1,⟨hi,hi2⟩,rfl,by omega⟩)
  .have hi:i=l.length:=by omega
   subst hi
   rw [List.drop_length]at hi2
   exact uJ_ (congrArg AV.bool hi2)
theorem p7 {l l2:List UInt8} {a a2:AV} (hp:Pk l a) (hp2:Pk l2 a2) (now nw2:Nat) (hn:now<65536) (hw2:nw2<65536):jA_ Tryz.prog 7 [a,a2,.int .u16 (now:Int),.int .u16 (nw2:Int)] (.bool true):=by
 have hA:=hp.1.ok vj_
 have hA2:=hp2.1.ok vj_
 refine t8_ (sh:=[none,none,none,none]) (ls:=[a,a2,.int .u16 (now:Int),.int .u16 (nw2:Int)]) (c:=c7) (n:=300) (t:=t7) mo ov rfl (by simp only [okL,okC,hA,hA2]) rfl (λY _=>vE_ _) rfl (by kernel_rfl) λY hf hg=>?_
 unfold t7
 refine uI_ k12 rfl rfl (vx_ rfl rfl (ve_ (t:=false) rfl (λh=>by cases h) (λ_=>?_)))
 refine vx_ (xI_ hp) rfl (vx_ (run_gtr ..) rfl (ve_ rfl (λ_=>uJ_ rfl) (λ_=>?_)))
 refine vx_ (xI_ hp2) rfl (vx_ (run_gtr ..) rfl (ve_ rfl (λ_=>uJ_ rfl) (λ_=>?_)))
 refine a_ (p13 hp) rfl (by simp only [okL,hA]) ⟨?_,trivial⟩
 rintro ws ⟨v,b,e,rfl,hv,_,hb⟩
 refine vx_ (vs_ ..) rfl (ve_ rfl (λ_=>uJ_ rfl) (λh=>?_))
 obtain ⟨rfl,hbl,hT⟩:=hb (by simpa using h)
 refine uI_ (p26 3 b hbl hT) rfl rfl (ve_ rfl (λ_=>uJ_ rfl) (λhti=>?_))
 refine a_ (p14 a2 hA2) rfl (by simp only [okL,hA2]) ⟨?_,trivial⟩
 rintro ws rfl
 refine a_ (p15 hp2 (Nat.zero_le _)) rfl (by simp only [okL,okC,hA2]) ⟨?_,trivial⟩
 rintro ws ⟨mem,n2,rfl,hm,hn2⟩
 have hnw: -9223372036854775808<=(now:Int)/\(now:Int)<=9223372036854775807:=by omega
 have hnw2: -9223372036854775808<=(nw2:Int)/\(nw2:Int)<=9223372036854775807:=by omega
 have h16:=p16 hnw hbl hT VARS rfl hm (left:=60) (by omega) (by omega)
 have h17:=p16 hnw2 hbl hT VARS rfl hm (left:=60) (by omega) (by omega)
 have hkk:=P_ (f:=m_ (now:Int) 3) b mem 60 (λs hs m l hm hl=>Y_ hnw 3 s (hT s hs) m l hm hl) hm (by omega)
 rw [←by_ b λs hs=>wC_ (now:Int) (nw2:Int) 3 s (hT s hs) (by
  rw [List.any_eq_false]at hti
  simpa using hti s hs)]at h17
 have hok:∀n:Nat,okL [VARS,q_ b,d_ mem,.int .i64 (n:Int),.int .i64 60]=true:=λn=>by simp only [okL,okC,p8_,okB];rfl
 generalize B_ (m_ (now:Int) 3) b mem 60=res at*
 refine vx_ (xw_ now hn) rfl ?_
 refine a_ h16 rfl (hok now) ⟨?_,trivial⟩
 rintro ws rfl
 refine vx_ (xw_ nw2 hw2) rfl ?_
 refine a_ h17 rfl (hok nw2) ⟨?_,trivial⟩
 rintro ws rfl
 (refine b_ rfl rfl ?_ ?_<;>intro h<;>simp only [nc]at h<;>try (exfalso;omega))
 exact uI_ (p18 (l:=res.mem) (by have:=hkk.1.len;omega)) rfl rfl (uJ_ rfl)
theorem q7 {now nw2:Int} (wn:(Lit.int .u16 now).wf=true) (wn2:(Lit.int .u16 nw2).wf=true) {l l2:List UInt8} {a a2:AV} (sl:SlV tX_ 1 l a) (m:l.length<=maxLen) (sl2:SlV tX_ 1 l2 a2) (m2:l2.length<=maxLen):jA_ Tryz.prog 7 [a,a2,.int .u16 now,.int .u16 nw2] (.bool true):=by
 have hw:0<=now/\now<=65535:=by simpa [Lit.wf,IntKind.min,IntKind.max,IntKind.bits,IntKind.signed]using wn
 have hw2:0<=nw2/\nw2<=65535:=by simpa [Lit.wf,IntKind.min,IntKind.max,IntKind.bits,IntKind.signed]using wn2
 obtain ⟨k,rfl⟩:=Int.eq_ofNat_of_zero_le hw.1
 obtain ⟨j,rfl⟩:=Int.eq_ofNat_of_zero_le hw2.1
 simp only [maxLen]at m m2
 exact p7 ⟨sl,by omega⟩ ⟨sl2,by omega⟩ k j (by omega) (by omega)
end Go.Proofs.YtjconanknjgpnaaGreat.vars
