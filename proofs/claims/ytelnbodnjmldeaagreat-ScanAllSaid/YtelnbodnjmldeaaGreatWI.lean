/-
  flow: what expressions come to.
-/
import Derived.Test.YtelnbodnjmldeaaGreatWD
import Derived.Test.YtelnbodnjmldeaaGreatFA
import Derived.Test.YtelnbodnjmldeaaGreatV4
set_option linter.all false
set_option maxHeartbeats 1000000
set_option maxRecDepth 100000
open List renaming mem_cons_self→za',mem_cons_of_mem→zb'
open Nat renaming zero_le→zc'
namespace Go.Proofs.YtelnbodnjmldeaaGreat.vars
open Go Go.Sx
def A_ (l:List FV) {i:Nat} (hi:i<l.length):(XOp.inb).run Tryz.prog [c_ l,.int .i64 (i:Int)]=some (.int .i64 (i:Int)):=OR (enc:=f_) hi .i64
def MJ (l:List FV) {i:Nat} (hi:i<l.length):(XOp.ldx 62 3 0).run Tryz.prog [c_ l,.int .i64 (i:Int)]=some (.agg (f_ l[i])):=
 Fd' (ti:=(Tryz.prog.info? 62).get!) Tryz.underlying62 rfl (by kernel_rfl) (by kernel_rfl) Eh hi .i64
def MR (mem:List FV) (now AO:Int):List AV:=[c_ mem,.int .i64 now,.int .i64 AO]
theorem Aw.set {mem:List FV} (h:Aw mem) {i:Nat} (hi:i<mem.length) {v:FV} (hv:TV v) (hk:v.k=mem[i].k):Aw (mem.set i v):=by refine ⟨?_,λu hu=>?_⟩;rw [←h.1,List.map_set,hk];apply List.ext_getElem (by simp);intro j h1 h2;rw [List.getElem_set];split;rename_i e;subst e;simp;rfl;rcases List.mem_or_eq_of_mem_set hu with hu|rfl;exact h.2 u hu;exact hv
def Kw (l:List FV) {i:Nat} (hi:i<l.length) (y:FV):(XOp.stx 62 3 0).run Tryz.prog [c_ l,.int .i64 (i:Int),.agg (f_ y)]=some (c_ (l.set i y)):=
 Eu (ti:=(Tryz.prog.info? 62).get!) Eh hi (p:=[]) (q:=f_ l[i]) (r:=[]) (xs:=f_ y) rfl (.inl rfl) (by kernel_rfl) (by rw [Eh];kernel_rfl) (X0 (BI _)) (by simp) rfl (by rw [Eh,Eh]) (by simp) .i64
def Sd (l:List FV) (i:Nat) (v:FV):(some (c_ l)=some .nsl/\some (c_ (l.set i v))=some .nsl)\/∃n z cs ds,some (c_ l)=some (.vsl n z cs)/\some (c_ (l.set i v))=some (.vsl n z ds):=by
 cases l with
 |nil=>exact .inl ⟨rfl,rfl⟩
 |cons x r=>
  cases i with
  |zero=>exact .inr ⟨_,_,_,_,rfl,rfl⟩
  |succ i=>refine .inr ⟨r.length+1,3,Ay f_ (x::r),Ay f_ (x::r.set i v),rfl,?_⟩;show some (AV.vsl ((r.set i v).length+1) 3 _)=_;rw [List.length_set]
structure RSt where
 mem:List FV
 AO:Int
 e:Int
def EX (now at_ pt:Int):Int:=if now<=at_ then 0 else min (now-at_) pt
def bv (b:Bool):FV:=⟨1,tI b,some 0⟩
def tv (i:Int):FV:=⟨4,i,some 0⟩
def nv (i:Int):FV:=⟨2,i,some 0⟩
def Ep (on at_:Int) (inn:Bool) (v now:Int):List FV:=
 if inn=false then [bv false,tv 0,bv false,tv 0]
 else if on=0 then [bv (decide (0=max v 0)),tv 0,bv true,tv now]
 else [bv (decide (EX now at_ (max v 0)=max v 0)),tv (EX now at_ (max v 0)),bv true,tv at_]
def Ed (cv was:Int) (inn:Bool) (v:Int):List FV:=
 let c:=if inn=true/\was=0 then min (cv+1) 32767 else cv
 [bv (decide (v<=c)),nv c,bv inn]
def E4 (was:Int) (inn:Bool):List FV:=[bv (inn&&decide (was=0)),bv inn]
def HZ (mem:List FV) (at_:Nat) (cs:List FV):List FV:=mem.take at_++(cs++mem.drop (at_+cs.length))
def FZ (mem:List FV) (n:Nat):Int:=(mem.getD n FV.z).i
def z_ (now kd:Int) (mem:List FV) (inn:Bool) (v:Int):List FV:=
 if kd=6 then HZ mem 12 (Ep (FZ mem 14) (FZ mem 15) inn v now)
 else if kd=9 then HZ mem 16 (Ed (FZ mem 17) (FZ mem 18) inn v)
 else HZ mem 19 (E4 (FZ mem 20) inn)
theorem Aw.kd {mem:List FV} (h:Aw mem) {i:Nat} (hi:i<mem.length):mem[i].k=LS.getD i 0:=by rw [←h.1,List.getD_eq_getElem?_getD,List.getElem?_map,List.getElem?_eq_getElem hi];rfl
def MO:∀t∈Nh,2<=t.1/\t.1<21/\LS.getD t.1.toNat 0=t.2:=by decide
def EG {mem:List FV} (h:mem.length=21):∃m0 m1 m2 m3 m4 m5 m6 m7 m8 m9 m10 m11 m12 m13 m14 m15 m16 m17 m18 m19 m20,mem=[m0,m1,m2,m3,m4,m5,m6,m7,m8,m9,m10,m11,m12,m13,m14,m15,m16,m17,m18,m19,m20]:=by
 rcases mem with _|⟨m0,mem⟩;· simp at h
 rcases mem with _|⟨m1,mem⟩;· simp at h
 rcases mem with _|⟨m2,mem⟩;· simp at h
 rcases mem with _|⟨m3,mem⟩;· simp at h
 rcases mem with _|⟨m4,mem⟩;· simp at h
 rcases mem with _|⟨m5,mem⟩;· simp at h
 rcases mem with _|⟨m6,mem⟩;· simp at h
 rcases mem with _|⟨m7,mem⟩;· simp at h
 rcases mem with _|⟨m8,mem⟩;· simp at h
 rcases mem with _|⟨m9,mem⟩;· simp at h
 rcases mem with _|⟨m10,mem⟩;· simp at h
 rcases mem with _|⟨m11,mem⟩;· simp at h
 rcases mem with _|⟨m12,mem⟩;· simp at h
 rcases mem with _|⟨m13,mem⟩;· simp at h
 rcases mem with _|⟨m14,mem⟩;· simp at h
 rcases mem with _|⟨m15,mem⟩;· simp at h
 rcases mem with _|⟨m16,mem⟩;· simp at h
 rcases mem with _|⟨m17,mem⟩;· simp at h
 rcases mem with _|⟨m18,mem⟩;· simp at h
 rcases mem with _|⟨m19,mem⟩;· simp at h
 rcases mem with _|⟨m20,mem⟩;· simp at h
 rcases mem with _|⟨x,mem⟩;exact ⟨_,_,_,_,_,_,_,_,_,_,_,_,_,_,_,_,_,_,_,_,_,rfl⟩;simp at h
def Aw.of {m0 m1 m2 m3 m4 m5 m6 m7 m8 m9 m10 m11 m12 m13 m14 m15 m16 m17 m18 m19 m20:FV}:Aw [m0,m1,m2,m3,m4,m5,m6,m7,m8,m9,m10,m11,m12,m13,m14,m15,m16,m17,m18,m19,m20]↔(m0.k=2/\m1.k=1/\m2.k=2/\m3.k=1/\m4.k=2/\m5.k=3/\m6.k=5/\m7.k=4/\m8.k=2/\m9.k=2/\m10.k=2/\m11.k=2/\m12.k=1/\m13.k=4/\m14.k=1/\m15.k=4/\m16.k=1/\m17.k=2/\m18.k=1/\m19.k=1/\m20.k=1)/\(TV m0/\TV m1/\TV m2/\TV m3/\TV m4/\TV m5/\TV m6/\TV m7/\TV m8/\TV m9/\TV m10/\TV m11/\TV m12/\TV m13/\TV m14/\TV m15/\TV m16/\TV m17/\TV m18/\TV m19/\TV m20):=by unfold Aw LS;constructor;rintro ⟨h1,h2⟩;refine ⟨by simpa using h1,?_⟩;simpa using h2;rintro ⟨h1,h2⟩;refine ⟨by simpa using h1,?_⟩;simpa using h2
def I5 (b:Bool):TV (bv b)/\(bv b).k=1:=⟨⟨Ke b,λ_=>rfl⟩,rfl⟩
def Ob {i:Int} (h1: -9223372036854775808<=i) (h2:i<=9223372036854775807):TV (tv i)/\(tv i).k=4:=⟨⟨.inr (.inr (.inr (.inl ⟨rfl,h1,h2⟩))),λ_=>rfl⟩,rfl⟩
def x9 {i:Int} (h1: -32768<=i) (h2:i<=32767):TV (nv i)/\(nv i).k=2:=⟨⟨.inr (.inl ⟨rfl,h1,h2⟩),λ_=>rfl⟩,rfl⟩
def uI {now at_ pt:Int} (h:0<=pt):0<=EX now at_ pt/\EX now at_ pt<=pt:=by unfold EX;split<;>omega
def X6 (on at_:Int) (inn:Bool) {v now:Int} (hv:v<=9223372036854775807) (hn: -9223372036854775808<=now/\now<=9223372036854775807) (ha: -9223372036854775808<=at_/\at_<=9223372036854775807):
  ∃a b c d,Ep on at_ inn v now=[a,b,c,d]/\(TV a/\a.k=1)/\(TV b/\b.k=4)/\(TV c/\c.k=1)/\(TV d/\d.k=4):=by
 unfold Ep;split;exact ⟨_,_,_,_,rfl,I5 _,Ob (by omega) (by omega),I5 _,Ob (by omega) (by omega)⟩;split;exact ⟨_,_,_,_,rfl,I5 _,Ob (by omega) (by omega),I5 _,Ob hn.1 hn.2⟩;have:=uI (now:=now) (at_:=at_) (pt:=max v 0) (by omega);exact ⟨_,_,_,_,rfl,I5 _,Ob (by omega) (by omega),I5 _,Ob ha.1 ha.2⟩
def W6 {cv:Int} (was:Int) (inn:Bool) (v:Int) (hc: -32768<=cv/\cv<=32767):∃a b c,Ed cv was inn v=[a,b,c]/\(TV a/\a.k=1)/\(TV b/\b.k=2)/\(TV c/\c.k=1):=by
 refine ⟨_,_,_,rfl,I5 _,x9 ?_ ?_,I5 _⟩
 .split<;>omega
 .split<;>omega
def dK {kd ad:Int} {ks:List Int} (hb:Nl kd ad ks) {mem:List FV} (hm:Aw mem) (inn:Bool) {v now:Int} (hv:v<=9223372036854775807) (hn: -9223372036854775808<=now/\now<=9223372036854775807):
  Aw (z_ now kd mem inn v)/\(z_ now kd mem inn v)[0]? =mem[0]? /\(z_ now kd mem inn v)[1]? =mem[1]? :=by
 obtain ⟨m0,m1,m2,m3,m4,m5,m6,m7,m8,m9,m10,m11,m12,m13,m14,m15,m16,m17,m18,m19,m20,rfl⟩:=EG hm.len;have hm':=Aw.of.1 hm;obtain ⟨⟨k0,k1,k2,k3,k4,k5,k6,k7,k8,k9,k10,k11,k12,k13,k14,k15,k16,k17,k18,k19,k20⟩,t0,t1,t2,t3,t4,t5,t6,t7,t8,t9,GM,GE,Gc,NE,O0,L4,F3,Fk,t18,Fg,t20⟩:=hm';rcases hb with ⟨rfl,_⟩|⟨rfl,_⟩|⟨rfl,_⟩;have ha:=L4.1.i64;obtain ⟨a,b,c,d,e,⟨ta,ka⟩,⟨tb,kb⟩,⟨tc,kc⟩,td,kd'⟩:=X6 m14.i m15.i inn hv hn ha;have e2:z_ now 6 [m0,m1,m2,m3,m4,m5,m6,m7,m8,m9,m10,m11,m12,m13,m14,m15,m16,m17,m18,m19,m20] inn v=[m0,m1,m2,m3,m4,m5,m6,m7,m8,m9,m10,m11,a,b,c,d,m16,m17,m18,m19,m20]:=(by show HZ _ 12 (Ep m14.i m15.i inn v now)=_;rw [e];rfl);rw [e2];exact ⟨Aw.of.2 ⟨⟨k0,k1,k2,k3,k4,k5,k6,k7,k8,k9,k10,k11,ka,kb,kc,kd',k16,k17,k18,k19,k20⟩,t0,t1,t2,t3,t4,t5,t6,t7,t8,t9,GM,GE,ta,tb,tc,td,F3,Fk,t18,Fg,t20⟩,rfl,rfl⟩;have hc: -32768<=m17.i/\m17.i<=32767:=(by rcases Fk.1 with q|q|q|q|q<;>omega);obtain ⟨a,b,c,e,⟨ta,ka⟩,⟨tb,kb⟩,tc,kc⟩:=W6 m18.i inn v hc;have e2:z_ now 9 [m0,m1,m2,m3,m4,m5,m6,m7,m8,m9,m10,m11,m12,m13,m14,m15,m16,m17,m18,m19,m20] inn v=[m0,m1,m2,m3,m4,m5,m6,m7,m8,m9,m10,m11,m12,m13,m14,m15,a,b,c,m19,m20]:=(by show HZ _ 16 (Ed m17.i m18.i inn v)=_;rw [e];rfl);rw [e2];exact ⟨Aw.of.2 ⟨⟨k0,k1,k2,k3,k4,k5,k6,k7,k8,k9,k10,k11,k12,k13,k14,k15,ka,kb,kc,k19,k20⟩,t0,t1,t2,t3,t4,t5,t6,t7,t8,t9,GM,GE,Gc,NE,O0,L4,ta,tb,tc,Fg,t20⟩,rfl,rfl⟩;have ⟨ta,ka⟩:=I5 (inn&&decide (m20.i=0));have ⟨tb,kb⟩:=I5 inn;have e2:z_ now 11 [m0,m1,m2,m3,m4,m5,m6,m7,m8,m9,m10,m11,m12,m13,m14,m15,m16,m17,m18,m19,m20] inn v=[m0,m1,m2,m3,m4,m5,m6,m7,m8,m9,m10,m11,m12,m13,m14,m15,m16,m17,m18,bv (inn&&decide (m20.i=0)),bv inn]:=rfl;rw [e2];exact ⟨Aw.of.2 ⟨⟨k0,k1,k2,k3,k4,k5,k6,k7,k8,k9,k10,k11,k12,k13,k14,k15,k16,k17,k18,ka,kb⟩,t0,t1,t2,t3,t4,t5,t6,t7,t8,t9,GM,GE,Gc,NE,O0,L4,F3,Fk,t18,ta,tb⟩,rfl,rfl⟩
structure MS where
 pc:Int
 st:List FV
 mem:List FV
 used:Int
 now:Int
 over:Bool
 err:Int
def d_ (i:GI):Nat:=if i.op=1\/i.op=2\/i.op=20\/i.op=23 then 0 else if i.op=3\/i.op=15\/i.op=16\/i.op=17\/i.op=18\/i.op=21 then 1 else if i.op=22 then i.n.toNat else 2
def X3 (i:GI):FV:=⟨i.vk,i.vi,some i.vf⟩
def FI (i:GI) (mem:List FV) (a b:FV):Except Int FV:=if i.op=1 then .ok (X3 i)else if i.op=2 then .ok (cell mem i.ad)else LY mem i.op i.kd i.ad i.n a b
def Fr (m:MS) (e:Int):MS:=⟨m.pc,m.st,m.mem,m.used+1,m.now,m.over,e⟩
def CI (m:MS) (pc:Int) (st mem:List FV):MS:=⟨pc,st,mem,m.used+1,m.now,m.over,m.err⟩
def Ct (i:GI) (m:MS) (rest inn:List FV):MS:=
 if i.op<=17 then (match FI i m.mem (inn.headD FV.z) (inn.getLastD FV.z)with
  | .error e=>Fr m e
  | .ok v=>CI m (m.pc+1) (rest++[v]) m.mem)
 else if i.op=18 then CI m (m.pc+1) rest (m.mem.set i.ad.toNat (inn.headD FV.z))
 else if i.op=19 then (if (inn.getLastD FV.z).i<0\/i.n<=(inn.getLastD FV.z).i then Fr m 6 else CI m (m.pc+1) rest (m.mem.set (i.ad+(inn.getLastD FV.z).i).toNat (inn.headD FV.z)))
 else if i.op=20 then CI m i.ad rest m.mem
 else if i.op=21 then CI m (if (inn.headD FV.z).i=0 then i.ad else m.pc+1) rest m.mem
 else if i.op=22 then CI m (m.pc+1) rest (z_ m.now i.kd m.mem (decide ((inn.headD FV.z).i≠0)) (inn.tail.headD FV.z).i)
 else ⟨m.pc,rest,m.mem,m.used+1,m.now,true,m.err⟩
def RQ (l:List GI) (m:MS):GI:=l.getD m.pc.toNat (n_ 23 0 0 0)
def e_ (l:List GI) (m:MS):MS:=if m.over=true\/m.err≠0 then m else
 Ct (RQ l m) m (m.st.take (m.st.length-d_ (RQ l m))) (m.st.drop (m.st.length-d_ (RQ l m)))
def TI (T:List (List Int)) (p:Nat) (i:GI) (K:List Int):Prop:=
 ∃K0 ks,K=K0++ks/\ks.length=d_ i/\K.length<=40/\(
  (∃k,T[p+1]? =some (K0++[k])/\(
    (i.op=1/\TV (X3 i)/\i.vk=k)\/(i.op=2/\(i.ad,k)∈Jd)\/
    (i.op=3/\i.ad=8/\i.n=4/\k=2/\(ks=[2]\/ks=[3]))\/
    (i.op=17/\2<=i.kd/\i.kd<=5/\k=i.kd/\ks=[i.n]/\2<=i.n/\i.n<=5)\/
    (Do i.op i.kd/\k=(if 9<=i.op/\i.op<=12 then 1 else i.kd)/\(ks=[i.kd]/\(i.op=15\/i.op=16)\/ks=[i.kd,i.kd]/\i.op<=14))))\/
  (T[p+1]? =some K0/\(
    (i.op=18/\∃k,ks=[k]/\(i.ad,k)∈Nh)\/
    (i.op=19/\i.ad=8/\i.n=4/\(ks=[2,2]\/ks=[2,3]))\/
    (i.op=22/\Nl i.kd i.ad ks/\i.n=(ks.length:Int))\/
    (i.op=21/\ks=[1]/\∃q:Nat,i.ad=(q:Int)/\T[q]? =some K0)))\/
  (i.op=20/\∃q:Nat,i.ad=(q:Int)/\T[q]? =some K0)\/
  i.op=23)
mutual
def H7:List Int->GX->List (List Int)
 |K,.mk op kd nm fd ad n vk vi vf ag=>Is K ag++[K++ag.map GX.kd]
def Is:List Int->List GX->List (List Int)
 |_,[]=>[]
 |K,a::r=>H7 K a++Is (K++[a.kd]) r
end
mutual
theorem L_:∀(K:List Int) (x:GX),(H7 K x).length=(l_ x).length
 |K,.mk op kd nm fd ad n vk vi vf ag=>by simp only [H7,l_,Az,EE,Jh K ag]
theorem Jh:∀(K:List Int) (l:List GX),(Is K l).length=(s_ l).length
 |_,[]=>rfl
 |K,a::r=>by simp only [Is,s_,Az,L_ K a,Jh _ r]
end
mutual
theorem PL:∀(K:List Int) (x:GX) (r:List (List Int)),(H7 K x++r)[0]? =some K
 |K,.mk op kd nm fd ad n vk vi vf ag,r=>by simp only [H7,Bo,List.singleton_append];exact UD K ag r
theorem UD:∀(K:List Int) (l:List GX) (r:List (List Int)),(Is K l++(K++l.map GX.kd)::r)[0]? =some K
 |K,[],r=>by simp only [Is,List.map_nil,Cg,B2];rfl
 |K,a::l,r=>by simp only [Is,Bo];exact PL K a _
end
def Mx (k:Int):GX->List (List Int)
 | .mk op _ _ _ ad n _ _ _ ag=>if op=3 then Is [k] ag++[[k]++ag.map GX.kd]else [[k]]
mutual
def Me:GS->List (List Int)
 | .mk op to e thn els nm kd ad ag=>
   if op=1 then H7 [] e++Mx e.kd to
   else if op=2 then (if els=[]then H7 [] e++([1]::Gu thn)else H7 [] e++([1]::(Gu thn++([]::Gu els))))
   else if op=3 then H7 [] e++([1]::(Gu thn++[[]]))
   else Is [] ag++[ag.map GX.kd]
def Gu:List GS->List (List Int)
 |[]=>[]
 |s::r=>Me s++Gu r
end
theorem B5_ (k:Int) (x:GX):(Mx k x).length=(FQ x).length:=by obtain ⟨op,kd,nm,fd,ad,n,vk,vi,vf,ag⟩:=x;simp only [Mx,FQ];split;simp only [Az,EE,Jh];rfl
mutual
theorem ZZ:∀(s:GS) (b:Nat),(Me s).length=(D_ b s).length
 | .mk op to e thn els nm kd ad ag,b=>by simp only [Me,D_];split;simp only [Az,L_,B5_];split;split;simp only [Az,List.length_cons,AK,L_,T_ thn (b+(l_ e).length+1)];omega;simp only [Az,List.length_cons,AK,L_,T_ thn (b+(l_ e).length+1),T_ els (b+(l_ e).length+1+(i_ (b+(l_ e).length+1) thn).length+1)];omega;split;simp only [Az,List.length_cons,AK,L_,T_ thn (b+(l_ e).length+1)];omega;simp only [Az,List.length_cons,AK,Jh]
theorem T_:∀(l:List GS) (b:Nat),(Gu l).length=(i_ b l).length
 |[],_=>rfl
 |s::r,b=>by simp only [Gu,i_,Az,ZZ s b,T_ r (b+(D_ b s).length)]
end
def vh (s:GS) (r:List (List Int)) (h:∃d,TS d s):(Me s++r)[0]? =some []:=by
 obtain ⟨op,to,e,thn,els,nm,kd,ad,ag⟩:=s;simp only [Me];split;rw [List.append_assoc];exact PL [] e _;split
 .split<;>(rw [List.append_assoc];exact PL [] e _)
 split;rw [List.append_assoc];exact PL [] e _;rw [List.append_assoc];exact UD [] ag _
def LO (l:List GS) (r:List (List Int)) (h:∀s∈l,∃d,TS d s):(Gu l++[]::r)[0]? =some []:=by
 cases l with
 |nil=>rfl
 |cons s l=>simp only [Gu,Bo];exact vh s _ (h s za')
structure FK (l:List GI) (T:List (List Int)) (b:Nat) (s:List GI) (t:List (List Int)) (Ko:List Int):Prop where
 len:t.length=s.length
 at_:∀j,j<s.length->l[b+j]? =s[j]?
 ty:∀j,j<=s.length->T[b+j]? =(t++[Ko])[j]?
def Av (T:List (List Int)) (b:Nat) (s:List GI):Prop:=∀(j:Nat) (i:GI) (K:List Int),s[j]? =some i->T[b+j]? =some K->TI T (b+j) i K
def FK.fst {l:List GI} {T:List (List Int)} {b:Nat} {s s2:List GI} {t t2:List (List Int)} {Ko K1:List Int} (h:FK l T b (s++s2) (t++t2) Ko) (hl:t.length=s.length) (h1:(t2++[Ko])[0]? =some K1):FK l T b s t K1:=by have hlen:=h.len;simp only [Az]at hlen;refine ⟨hl,λj hj=>?_,λj hj=>?_⟩;rw [h.at_ j (by rw [Az];omega),List.getElem?_append_left hj];rw [h.ty j (by rw [Az];omega),List.append_assoc];by_cases e:j<t.length;rw [List.getElem?_append_left e,List.getElem?_append_left e];have e:j=t.length:=(by omega);subst e;rw [List.getElem?_append_right (Nat.le_refl _),List.getElem?_append_right (Nat.le_refl _),Nat.sub_self,h1];rfl
def FK.snd {l:List GI} {T:List (List Int)} {b:Nat} {s s2:List GI} {t t2:List (List Int)} {Ko:List Int} (h:FK l T b (s++s2) (t++t2) Ko) (hl:t.length=s.length):FK l T (b+s.length) s2 t2 Ko:=by have hlen:=h.len;simp only [Az]at hlen;refine ⟨by omega,λj hj=>?_,λj hj=>?_⟩;rw [Nat.add_assoc,h.at_ _ (by rw [Az];omega),List.getElem?_append_right (by omega),Nat.add_sub_cancel_left];rw [Nat.add_assoc,h.ty _ (by rw [Az];omega),List.append_assoc,List.getElem?_append_right (by omega),←hl,Nat.add_sub_cancel_left]
def Av.app {T:List (List Int)} {b:Nat} {s s2:List GI} (h1:Av T b s) (h2:Av T (b+s.length) s2):Av T b (s++s2):=λj i K hi hK=>by by_cases e:j<s.length;rw [List.getElem?_append_left e]at hi;exact h1 j i K hi hK;rw [List.getElem?_append_right (by omega)]at hi;obtain ⟨d,rfl⟩:∃d,j=s.length+d:=⟨j-s.length,by omega⟩;rw [Nat.add_sub_cancel_left]at hi;rw [←Nat.add_assoc]at hK⊢;exact h2 d i K hi hK
theorem Av.one {l:List GI} {T:List (List Int)} {b:Nat} {i:GI} {K Ko:List Int} (h:FK l T b [i] [K] Ko) (hi:T[b]? =some K->T[b+1]? =some Ko->TI T b i K):Av T b [i]:=λj i' K' hi' hK=>by
 have e:j=0:=by
  cases j with
  |zero=>rfl
  |succ j=>simp at hi'
 subst e;cases hi';have h0:=h.ty 0 (zc' _);have h1:=h.ty 1 (Nat.le_refl _);rw [Nat.add_zero]at h0 hK⊢;rw [show ([K]++[Ko])[0]? =some K from rfl]at h0;rw [h0]at hK;cases hK;exact hi h0 h1
section
variable {l:List GI} {T:List (List Int)}
def mJ {op kd ad n vk vi:Int} {vf:Nat} {ag:List GX} (h:4<=op/\op<=14):N_ op kd ad n vk vi vf ag=n_ op (EI ag) 0 0:=by unfold N_;rw [Ab (by omega),Ab (by omega),Ab (by omega),Ab (by omega)]
def AQ_ {i:GI} (h:4<=i.op/\i.op<=14):d_ i=2:=by unfold d_;rw [Ab (by omega),Ab (by omega),Ab (by omega)]
def zl {op kd ad n vk vi:Int} {vf:Nat} {ag:List GX} (h:Dq op ag.length):d_ (N_ op kd ad n vk vi vf ag)=ag.length:=by unfold Dq at h;rcases h with ⟨rfl|rfl,h⟩|⟨rfl|rfl|rfl|rfl,h⟩|⟨h1,h⟩;rw [h];rfl;rw [h];rfl;rw [h];rfl;rw [h];rfl;rw [h];rfl;rw [h];rfl;rw [h,mJ h1];exact AQ_ h1
def Vb {ag:List GX} {k:Int} {r:List Int} (h:ag.map GX.kd=k::r):EI ag=k:=by
 cases ag with
 |nil=>cases h
 |cons a t=>rw [List.map_cons,List.cons.injEq]at h;exact h.1
def wm {d b:Nat} {op kd:Int} {nm fd:List UInt8} {ad n vk vi:Int} {vf:Nat} {ag:List GX} {K:List Int} (h:TX (d+1) (.mk op kd nm fd ad n vk vi vf ag)) (hK:K.length+2<=40) (hn:T[b+1]? =some (K++[kd])):
  TI T b (N_ op kd ad n vk vi vf ag) (K++ag.map GX.kd):=by
 have hal:ag.length<=2:=by have:=h.1;unfold Dq at this;omega
 have hL:(K++ag.map GX.kd).length<=40:=by rw [List.length_append,List.length_map];omega
 obtain ⟨a1,a2,a3,a4,⟨k1,k2,k3,k4,k5,k6,k7⟩,a6⟩:=id h;refine ⟨K,ag.map GX.kd,rfl,by rw [List.length_map,zl a1],hL,.inl ⟨kd,hn,?_⟩⟩;have ha:=a1;unfold Dq at ha;rcases ha with ⟨rfl|rfl,h0⟩|⟨rfl|rfl|rfl|rfl,h0⟩|⟨h1,h0⟩;exact .inl ⟨rfl,(oM h rfl).1,(oM h rfl).2⟩;exact .inr (.inl ⟨rfl,k2 rfl⟩);obtain ⟨q1,q2,q3,k,q4,q5⟩:=k3 rfl;refine .inr (.inr (.inl ⟨rfl,q1,q2,q3,?_⟩));rw [q4];rcases q5 with rfl|rfl;exact .inl rfl;exact .inr rfl
 .obtain ⟨q1,q2⟩:=k5 rfl;have e:=Vb q2;rw [q1,q2];refine .inr (.inr (.inr (.inr ⟨?_,?_,?_⟩)));show Do 15 (EI ag);rw [e];unfold Do;omega
  .show (1:Int)=if (9:Int)<=15/\(15:Int)<=12 then 1 else EI ag
   rw [e];rfl
  show [1]=[EI ag]/\_\/_;rw [e];exact .inl ⟨rfl,.inl rfl⟩
 .obtain ⟨q1,q2,q3⟩:=k6 rfl;have e:=Vb q1;rw [q1];refine .inr (.inr (.inr (.inr ⟨?_,?_,?_⟩)));show Do 16 (EI ag);rw [e];unfold Do;omega
  .show kd=if (9:Int)<=16/\(16:Int)<=12 then 1 else EI ag
   rw [e];rfl
  show [kd]=[EI ag]/\_\/_;rw [e];exact .inl ⟨rfl,.inr rfl⟩
 obtain ⟨q1,q2,k,q3,q4,q5⟩:=k7 rfl;have e:=Vb q3;rw [q3];refine .inr (.inr (.inr (.inl ⟨rfl,q1,q2,rfl,?_,?_,?_⟩)));show [k]=[EI ag];rw [e];show 2<=EI ag;rw [e];exact q4;show EI ag<=5;rw [e];exact q5
 .obtain ⟨k,q1,q2,q3,q4,q5,q6,q7,q8⟩:=k4 h1;have e:=Vb q1;clear k1 k2 k3 k4 k5 k6 k7;rw [q1,mJ h1];refine .inr (.inr (.inr (.inr ⟨?_,?_,?_⟩)));show Do op (EI ag);rw [e];unfold Do;omega
  .show kd=if 9<=op/\op<=12 then 1 else EI ag
   rw [e];split;omega;omega
  show [k,k]=[EI ag]/\_\/[k,k]=[EI ag,EI ag]/\_;rw [e];exact .inr ⟨rfl,h1.2⟩
mutual
theorem PY:∀(x:GX) (d:Nat),TX d x->∀(K:List Int) (b:Nat),K.length+2*d<=40->FK l T b (l_ x) (H7 K x) (K++[x.kd])->Av T b (l_ x)
 | .mk op kd nm fd ad n vk vi vf ag,0,h,_,_,_,_=>h.elim
 | .mk op kd nm fd ad n vk vi vf ag,d+1,h,K,b,hK,hs=>by simp only [l_,H7]at hs⊢;have hal:ag.length<=2:=(by have:=h.1;unfold Dq at this;omega);refine Av.app (SD ag d h.2.2.2.2.2 K b (by omega) (hs.fst (Jh K ag) rfl)) ?_;exact Av.one (hs.snd (Jh K ag)) λ_ h1=>wm h (by omega) h1
theorem SD:∀(ag:List GX) (d:Nat),(∀a∈ag,TX d a)->∀(K:List Int) (b:Nat),K.length+ag.length+2*d<=40->FK l T b (s_ ag) (Is K ag) (K++ag.map GX.kd)->Av T b (s_ ag)
 |[],_,_,_,_,_,_=>λj i K hi _=>by simp [s_]at hi
 |a::r,d,h,K,b,hK,hs=>by simp only [s_,Is,List.map_cons,List.length_cons]at hs hK⊢;rw [show K++a.kd::r.map GX.kd=(K++[a.kd])++r.map GX.kd by simp]at hs;refine Av.app (PY a d (h a za') K b (by omega) (hs.fst (L_ K a) (UD _ r []))) ?_;exact SD r d (λx hx=>h x (zb' _ hx)) _ _ (by simp only [Az,EE];omega) (hs.snd (L_ K a))
end
def su {to:GX} {k:Int} {b:Nat} (h:TX 5 to) (hw:to.op=2/\(to.ad,to.kd)∈Nh\/to.op=3) (hk:k=to.kd) (hs:FK l T b (FQ to) (Mx k to) []):Av T b (FQ to):=by obtain ⟨op,kd,nm,fd,ad,n,vk,vi,vf,ag⟩:=to;simp only [FQ,Mx]at hs⊢;by_cases h3:op=3;rw [Ad h3]at hs⊢;rw [Ad h3]at hs;have hal:ag.length<=2:=(by have:=h.1;unfold Dq at this;omega);refine Av.app (SD ag 4 h.2.2.2.2.2 [k] b (by show 1+ag.length+8<=40;omega) (hs.fst (Jh _ ag) rfl)) ?_;refine Av.one (hs.snd (Jh _ ag)) λ_ h1=>?_;obtain ⟨q1,q2,q3,k',q4,q5⟩:=h.2.2.2.2.1.2.2.1 h3;refine ⟨[],[k]++ag.map GX.kd,rfl,by rw [q4];rfl,by rw [q4];show (2:Nat)<=40;decide,.inr (.inl ⟨h1,.inr (.inl ⟨rfl,q1,q2,?_⟩)⟩)⟩;have hk:k=kd:=hk;rw [q4,hk,q3];rcases q5 with rfl|rfl;exact .inl rfl;exact .inr rfl;rw [Ab h3]at hs⊢;rw [Ab h3]at hs;refine Av.one hs λ_ h1=>?_;rcases hw with ⟨_,hw⟩|hw;exact ⟨[],[k],rfl,rfl,by show (1:Nat)<=40;decide,.inr (.inl ⟨h1,.inl ⟨rfl,k,rfl,by rw [hk];exact hw⟩⟩)⟩;exact absurd hw h3
def gx {b:Nat} {s:List GI} {t:List (List Int)} {Ko K:List Int} (h:FK l T b s t Ko) (h0:(t++[Ko])[0]? =some K):T[b]? =some K:=by have:=h.ty 0 (zc' _);rw [h0]at this;exact this
def Sh {b:Nat} {s:List GI} {t:List (List Int)} {Ko:List Int} (h:FK l T b s t Ko):T[b+s.length]? =some Ko:=by rw [h.ty _ (Nat.le_refl _),List.getElem?_append_right (by rw [h.len];exact Nat.le_refl _),h.len,Nat.sub_self];rfl
theorem Lg (i:GI) (s:List GI):i::s=[i]++s:=rfl
theorem UH (K:List Int) (t:List (List Int)):K::t=[K]++t:=rfl
def XE {b:Nat} {q:Nat} (h1:T[b+1]? =some []) (hq:T[q]? =some []):TI T b (n_ 21 0 (q:Int) 0) [1]:=
 ⟨[],[1],rfl,rfl,by decide,.inr (.inl ⟨h1,.inr (.inr (.inr ⟨rfl,rfl,q,rfl,hq⟩))⟩)⟩
def gn {b:Nat} {q:Nat} (hq:T[q]? =some []):TI T b (n_ 20 0 (q:Int) 0) []:=
 ⟨[],[],rfl,rfl,by decide,.inr (.inr (.inl ⟨rfl,q,rfl,hq⟩))⟩
mutual
theorem vE:∀(s:GS) (d:Nat),TS d s->∀b:Nat,FK l T b (D_ b s) (Me s) []->Av T b (D_ b s)
 | .mk op to e thn els nm kd ad ag,0,h,_,_=>h.elim
 | .mk op to e thn els nm kd ad ag,d+1,h,b,hs=>by
   simp only [D_,Me]at hs⊢;rcases h with ⟨h1,h2,h3,h4,h5,_⟩|⟨h1,h2,h3,h4,h5,h6,h7⟩|⟨h1,h2,h3,_⟩
   .simp only [Ad h1]at hs⊢;have hh:(Mx e.kd to++[[]])[0]? =some [e.kd]:=by obtain ⟨op,kd,nm,fd,ad,n,vk,vi,vf,ag⟩:=to;simp only [Mx];split;rw [List.append_assoc];exact UD [_] ag _;rfl
    exact Av.app (PY e 6 h4 [] b (by decide) (hs.fst (L_ _ e) hh)) (su h2 h3 h5 (hs.snd (L_ _ e)))
   have n1:¬op=1:=(by omega);simp only [Ab n1]at hs⊢;have ht:∀s∈thn,∃d,TS d s:=λs hs=>⟨d,h6 s hs⟩;have he:∀s∈els,∃d,TS d s:=λs hs=>⟨d,h7 s hs⟩;rcases h1 with h1|h1;simp only [Ad h1]at hs⊢;by_cases hn:els=[];simp only [Ad hn,Bo,List.singleton_append]at hs⊢;have h8:=hs.fst (L_ _ e) (K1:=[1]) rfl;rw [←h3]at h8;have h9:=hs.snd (L_ _ e);rw [Lg,UH]at h9;have h10:=h9.fst rfl (LO thn [] ht);have h11:=h9.snd rfl;have hend:=Sh h11;rw [List.length_singleton]at h11 hend;refine Av.app (PY e 5 h2 [] b (by decide) h8) ?_;rw [Lg];refine Av.app (Av.one h10 λ_ g1=>XE g1 hend) ?_;exact OH thn d h6 _ h11;simp only [Ab hn,Bo,List.singleton_append,Bg,B2]at hs⊢;have h8:=hs.fst (L_ _ e) (K1:=[1]) rfl;rw [←h3]at h8;have h9:=hs.snd (L_ _ e);rw [Lg,UH]at h9;have h10:=h9.fst rfl (K1:=[]) (by rw [List.append_assoc];exact LO thn _ ht);have h11:=h9.snd rfl;rw [List.length_singleton]at h11;have h12:=h11.fst (T_ thn _) rfl;have h13:=h11.snd (T_ thn _);rw [Lg,UH]at h13;have h14:=h13.fst rfl (LO els [] he);have h15:=h13.snd rfl;rw [List.length_singleton]at h15;have h0:=gx h15 (LO els [] he);have hend:=Sh h15;refine Av.app (PY e 5 h2 [] b (by decide) h8) ?_;rw [Lg];refine Av.app (Av.one h10 λ_ g1=>XE g1 h0) ?_;refine Av.app (OH thn d h6 _ h12) ?_;rw [Lg];refine Av.app (Av.one h14 λ_ g1=>gn hend) ?_;exact OH els d h7 _ h15;have n2:¬op=2:=(by omega);simp only [Ab n2,Ad h1,Bo,List.singleton_append,Bg,B2]at hs⊢;have h8:=hs.fst (L_ _ e) (K1:=[1]) rfl;have hb:=gx h8 (PL [] e _);rw [←h3]at h8;have h9:=hs.snd (L_ _ e);rw [Lg,UH]at h9;have h10:=h9.fst rfl (K1:=[]) (by rw [List.append_assoc];exact LO thn _ ht);have h11:=h9.snd rfl;rw [List.length_singleton]at h11;have h12:=h11.fst (T_ thn _) rfl;have h13:=h11.snd (T_ thn _);have hend:=Sh h13;rw [List.length_singleton]at hend;refine Av.app (PY e 5 h2 [] b (by decide) h8) ?_;rw [Lg];refine Av.app (Av.one h10 λ_ g1=>XE g1 hend) ?_;refine Av.app (OH thn d h6 _ h12) ?_;exact Av.one h13 λ_ g1=>gn hb;have n1:¬op=1:=(by omega);have n2:¬op=2:=(by omega);have n3:¬op=3:=(by omega);simp only [Ab n1,Ab n2,Ab n3]at hs⊢;have hal:ag.length<=2:=(by rcases h2 with ⟨_,_,h⟩|⟨_,_,h⟩|⟨_,_,h⟩<;>(have:=congrArg List.length h;simp at this;omega));refine Av.app (SD ag 5 h3 [] b (by show 0+ag.length+10<=40;omega) (hs.fst (Jh _ ag) rfl)) ?_;refine Av.one (hs.snd (Jh _ ag)) λ_ g1=>?_;refine ⟨[],ag.map GX.kd,rfl,?_,by rw [List.length_map];omega,.inr (.inl ⟨g1,.inr (.inr (.inl ⟨rfl,h2,?_⟩))⟩)⟩;rw [List.length_map];rfl;show (ag.length:Int)=_;rw [List.length_map]
theorem OH:∀(x:List GS) (d:Nat),(∀s∈x,TS d s)->∀b:Nat,FK l T b (i_ b x) (Gu x) []->Av T b (i_ b x)
 |[],_,_,_,_=>λj i K hi _=>by simp [i_]at hi
 |s::r,d,h,b,hs=>by simp only [i_,Gu]at hs⊢;refine Av.app (vE s d (h s za') b (hs.fst (ZZ s b) (LO r [] λt ht=>⟨d,h t (zb' _ ht)⟩))) ?_;exact OH r d (λt ht=>h t (zb' _ ht)) _ (hs.snd (ZZ s b))
end
end
def F8 (x:List GS):List (List Int):=Gu x++[[]]
def mi (x:List GS):FK (q_ x) (F8 x) 0 (i_ 0 x) (Gu x) []:=by refine ⟨T_ x 0,λj hj=>?_,λj hj=>?_⟩;rw [Nat.zero_add];exact List.getElem?_append_left hj;rw [Nat.zero_add];rfl
def qS {x:List GS} {d:Nat} (h:∀s∈x,TS d s):Av (F8 x) 0 (q_ x):=by
 refine Av.app (OH x d h 0 (mi x)) λj i K hi hK=>?_;have e:j=0:=by
  cases j with
  |zero=>rfl
  |succ j=>simp at hi
 subst e;cases hi;rw [Nat.add_zero]at hK⊢;have h0:=Sh (mi x);rw [h0]at hK;cases hK;exact ⟨[],[],rfl,rfl,by decide,.inr (.inr (.inr rfl))⟩
theorem oX (x:List GS):(F8 x).length=(q_ x).length:=by unfold F8 q_;rw [List.length_append,List.length_append,T_ x 0];rfl
def qE {x:List GS} {d:Nat} (h:∀s∈x,TS d s):(F8 x)[0]? =some []:=LO x [] λs hs=>⟨d,h s hs⟩
structure MT (l:List GI) (T:List (List Int)) (m:MS) (p:Nat) (i:GI) (K:List Int):Prop where
 pc:m.pc=(p:Int)
 at_:l[p]? =some i
 ty:T[p]? =some K
 st:m.st.map FV.k=K
 tv:∀v∈m.st,TV v
 mem:Aw m.mem
def Gh (l:List GI) (T:List (List Int)) (m:MS):Prop:=∃p i K,MT l T m p i K
theorem MT.inst {l:List GI} {T:List (List Int)} {m:MS} {p:Nat} {i:GI} {K:List Int} (h:MT l T m p i K):RQ l m=i:=by unfold RQ;rw [h.pc,Int.toNat_natCast,List.getD_eq_getElem?_getD,h.at_];rfl
def WR {st:List FV} {K0 ks:List Int} (h:st.map FV.k=K0++ks):(st.take (st.length-ks.length)).map FV.k=K0/\(st.drop (st.length-ks.length)).map FV.k=ks:=by
 have hl:st.length=K0.length+ks.length:=by rw [←HJ (f:=FV.k),h,List.length_append]
 rw [List.map_take,List.map_drop,h,hl,Nat.add_sub_cancel];exact ⟨List.take_left,List.drop_left⟩
section
variable {l:List GI} {T:List (List Int)} {m:MS} {mem:List FV}
def vS (hm:Aw mem) {i:Int} (h1:0<=i) (h2:i<4):TV (cell mem (8+i))/\(cell mem (8+i)).k=2:=by obtain ⟨p,q⟩:=hm.cell (n:=8+i) (by omega) (by omega);refine ⟨p,q.trans ?_⟩;rcases (by omega:i=0\/i=1\/i=2\/i=3)with rfl|rfl|rfl|rfl<;>rfl
def eu {op kd ad n:Int} {a b:FV} (h3:op≠3) (h17:op≠17):LY mem op kd ad n a b=if Dp op a.k b=0 then .ok (D7 op a.k a b)else .error (Dp op a.k b):=by unfold LY;rw [Ab h3,Ab h17]
def CZ_ (hm:Aw mem) {i:GI} {k:Int} {ks:List Int} {inn:List FV} (hk:inn.map FV.k=ks) (hv:∀v∈inn,TV v)
  (h:(i.op=1/\TV (X3 i)/\i.vk=k)\/(i.op=2/\(i.ad,k)∈Jd)\/(i.op=3/\i.ad=8/\i.n=4/\k=2/\(ks=[2]\/ks=[3]))\/
    (i.op=17/\2<=i.kd/\i.kd<=5/\k=i.kd/\ks=[i.n]/\2<=i.n/\i.n<=5)\/
    (Do i.op i.kd/\k=(if 9<=i.op/\i.op<=12 then 1 else i.kd)/\(ks=[i.kd]/\(i.op=15\/i.op=16)\/ks=[i.kd,i.kd]/\i.op<=14)))
  {v:FV} (ht:FI i mem (inn.headD FV.z) (inn.getLastD FV.z)=.ok v):TV v/\v.k=k:=by
 unfold FI at ht;rcases h with ⟨h1,h2,h3⟩|⟨h1,h2⟩|⟨h1,h2,h3,h4,h5⟩|⟨h1,h2,h3,h4,h5,h6⟩|⟨h1,h2,h3⟩;rw [Ad h1]at ht;cases ht;exact ⟨h2,h3⟩;rw [Ab (by omega),Ad h1]at ht;cases ht;obtain ⟨q1,q2,q3⟩:=ED _ h2;obtain ⟨p,q⟩:=hm.cell q1 q2;exact ⟨p,q.trans q3⟩;rw [Ab (by omega),Ab (by omega)]at ht;unfold LY at ht;rw [Ad h1]at ht;split at ht;cases ht;rename_i hr;cases ht;rw [h2,h4];exact vS hm (by omega) (by omega);rw [Ab (by omega),Ab (by omega)]at ht;unfold LY at ht;rw [Ab (by omega),Ad h1]at ht;rw [h5]at hk;obtain ⟨a,rfl,ha⟩:=X_ hk;have:=A2_ ⟨h2,h3⟩ (hv a za') ht;exact ⟨this.1,this.2.trans h4.symm⟩;have hop:=h1;unfold Do at hop;rw [Ab (by omega),Ab (by omega),eu (by omega) (by omega)]at ht;have key:∃a,inn.headD FV.z=a/\a.k=i.kd/\TV a:=(by rcases h3 with ⟨h3,_⟩|⟨h3,_⟩;rw [h3]at hk;obtain ⟨a,rfl,ha⟩:=X_ hk;exact ⟨a,rfl,ha,hv a za'⟩;rw [h3]at hk;obtain ⟨a,b,rfl,ha,_⟩:=HS hk;exact ⟨a,rfl,ha,hv a za'⟩);obtain ⟨a,ea,hak,hat⟩:=key;rw [ea]at ht;split at ht;cases ht;rw [hak];exact ⟨Ed_ h1 hat hak,(uL h1).trans h2.symm⟩;cases ht
def Mc {p:Nat} {K:List Int} {st:List FV} (hlen:T.length=l.length) (hp:T[p]? =some K) (hk:st.map FV.k=K) (hv:∀v∈st,TV v) (hm:Aw mem):Gh l T (CI m (p:Int) st mem):=by
 have hpl:p<l.length:=by rw [←hlen];exact (List.getElem?_eq_some_iff.1 hp).1
 exact ⟨p,l[p],K,rfl,List.getElem?_eq_getElem hpl,hp,hk,hv,hm⟩
def I4_ (hm:Aw mem) {v:FV} (hv:TV v) (hk:v.k=2) {i:Int} (h1:0<=i) (h2:i<4):Aw (mem.set (8+i).toNat v):=by have hl:=hm.len;refine hm.set (i:=(8+i).toNat) (by omega) hv ?_;rw [hm.kd (by omega),hk];rcases (by omega:i=0\/i=1\/i=2\/i=3)with rfl|rfl|rfl|rfl<;>rfl
def zV (hm:Aw mem) {v:FV} (hv:TV v) {a:Int} (h:(a,v.k)∈Nh):Aw (mem.set a.toNat v):=by obtain ⟨q1,q2,q3⟩:=MO _ h;simp only at q1 q2 q3;have hl:=hm.len;refine hm.set (i:=a.toNat) (by omega) hv ?_;rw [hm.kd (by omega)];exact q3.symm
def CO_ (hlen:T.length=l.length) (hG:Av T 0 l) (hn: -9223372036854775808<=m.now/\m.now<=9223372036854775807) {p:Nat} {i:GI} {K:List Int} (h:MT l T m p i K):Gh l T (e_ l m):=by
 unfold e_;split;exact ⟨p,i,K,h⟩;rw [h.inst];have hT:=hG p i K h.at_ (by rw [Nat.zero_add];exact h.ty);rw [Nat.zero_add]at hT;obtain ⟨K0,ks,rfl,hks,hK40,hT⟩:=hT;rw [←hks];obtain ⟨s1,s2⟩:=WR h.st;have v1:∀v∈m.st.take (m.st.length-ks.length),TV v:=λv hv=>h.tv v (List.mem_of_mem_take hv);have v2:∀v∈m.st.drop (m.st.length-ks.length),TV v:=λv hv=>h.tv v (List.mem_of_mem_drop hv);have hpc:m.pc+1=((p+1:Nat):Int):=by rw [h.pc];rfl
 have hbad:∀e,Gh l T (Fr m e):=λe=>⟨p,i,_,h.pc,h.at_,h.ty,h.st,h.tv,h.mem⟩;have hmem:=h.mem;generalize m.st.take (m.st.length-ks.length)=rest at*;generalize m.st.drop (m.st.length-ks.length)=inn at*;unfold Ct;rcases hT with ⟨k,hk,hT⟩|⟨hk,hT⟩|⟨h20,q,hq,hT⟩|h23;have h17:i.op<=17:=(by rcases hT with ⟨q,_⟩|⟨q,_⟩|⟨q,_⟩|⟨q,_⟩|⟨q,_⟩;omega;omega;omega;omega;unfold Do at q;omega);rw [Ad h17];split;exact hbad _;rename_i v hv;obtain ⟨t1,t2⟩:=CZ_ h.mem s2 v2 hT hv;rw [hpc];refine Mc hlen hk (by rw [List.map_append,s1,List.map_singleton,t2]) (λu hu=>?_) h.mem;rcases List.mem_append.1 hu with hu|hu;exact v1 u hu;rw [List.mem_singleton.1 hu];exact t1
 .rcases hT with ⟨h1,k,h2,h3⟩|⟨h1,h2,h3,h4⟩|⟨h1,h2,h3⟩|⟨h1,h2,q,h3,h4⟩;rw [Ab (by omega),Ad h1,hpc];rw [h2]at s2;obtain ⟨a,rfl,ha⟩:=X_ s2;exact Mc hlen hk s1 v1 (zV h.mem (v2 a za') (by rw [ha];exact h3))
  .rw [Ab (by omega),Ab (by omega),Ad h1,hpc];split;exact hbad _
   .rename_i hr;have:∃a b,inn=[a,b]/\a.k=2:=by rcases h4 with rfl|rfl;obtain ⟨a,b,e,ha,_⟩:=HS s2;exact ⟨a,b,e,ha⟩;obtain ⟨a,b,e,ha,_⟩:=HS s2;exact ⟨a,b,e,ha⟩
    obtain ⟨a,b,rfl,ha⟩:=this;have hr:¬(b.i<0\/i.n<=b.i):=hr;rw [h2];exact Mc hlen hk s1 v1 (I4_ h.mem (v2 a za') ha (i:=b.i) (by omega) (by omega))
  .rw [Ab (by omega),Ab (by omega),Ab (by omega),Ab (by omega),Ab (by omega),Ad h1,hpc];have hv:(inn.tail.headD FV.z).i<=9223372036854775807:=by
    match inn,v2 with
    |[],_=>show (0:Int)<=_;omega
    |[a],_=>show (0:Int)<=_;omega
    |a::b::r,v2=>exact ((v2 b (zb' _ za')).1.i64).2
   exact Mc hlen hk s1 v1 (dK h2 h.mem _ hv hn).1
  rw [Ab (by omega),Ab (by omega),Ab (by omega),Ab (by omega),Ad h1,hpc];split;rw [h3];exact Mc hlen h4 s1 v1 h.mem;exact Mc hlen hk s1 v1 h.mem
 rw [Ab (by omega),Ab (by omega),Ab (by omega),Ad h20,hq];exact Mc hlen hT s1 v1 h.mem
 .rw [Ab (by omega),Ab (by omega),Ab (by omega),Ab (by omega),Ab (by omega),Ab (by omega)];have h0:ks=[]:=by have:d_ i=0:=(by unfold d_;rw [Ad (by omega)]);rw [this]at hks;exact List.length_eq_zero_iff.1 hks
  subst h0;rw [List.append_nil]at h;exact ⟨p,i,K0,h.pc,h.at_,h.ty,s1,v1,h.mem⟩
end
def YM {l:List GI} {T:List (List Int)} {m:MS} (hlen:T.length=l.length) (hG:Av T 0 l) (hn: -9223372036854775808<=m.now/\m.now<=9223372036854775807) (h:Gh l T m):Gh l T (e_ l m):=by obtain ⟨p,i,K,h⟩:=h;exact CO_ hlen hG hn h
def cT (l:List GI):Nat->MS->MS
 |0,m=>m
 |n+1,m=>cT l n (e_ l m)
def Ky (m:MS):Prop:=m.over=true\/m.err≠0
instance (m:MS):Decidable (Ky m):=by unfold Ky;exact inferInstance
def oq {l:List GI} {m:MS} (h:Ky m):e_ l m=m:=by unfold e_;rw [Ad (show m.over=true\/m.err≠0 from h)]
def Wq (i:GI) (m:MS) (r n:List FV):(Ct i m r n).used=m.used+1/\(Ct i m r n).now=m.now:=by
 unfold Ct;repeat' split
 all_goals exact ⟨rfl,rfl⟩
def rI {l:List GI} {m:MS} (h:¬Ky m):(e_ l m).used=m.used+1:=by unfold e_;rw [Ab (show ¬(m.over=true\/m.err≠0) from h)];exact (Wq ..).1
def uV {l:List GI} {m:MS}:(e_ l m).now=m.now:=by unfold e_;split;rfl;exact (Wq ..).2
def tP:VC:=⟨⟨[],[]⟩,[],[],0,true,[]⟩
def eA:VT:=It Zj [64,.nsl] 65 (Dn [.nsl])<|Li Qe [.vsl 0 3 [],64] 66<|Dn [66]
def Ht_:VC:=⟨⟨[],[]⟩,[],[],2,true,[]⟩
def dN:VT:=Li Qz [65] 71<|Li Qj [71,J 1] 72<|Li Q2 [65,72] 73<|.lt Qx [65,73] 74 (some 3)<|Li .tkx [65,65,72] 77<|Dn [64,77,67,68,69,70,74,75,76]
def wQ:VC:=⟨⟨[],[]⟩,[],[],2,true,[]⟩
def oU:VT:=Li Qe [65,.agg [71,72,73]] 74<|Dn [64,74,67,68,69,70]
def wK:VC:=⟨⟨[],[]⟩,[],[],2,true,[(123,O_),(160,Bu)]⟩
def oi:VT:=Cf 123 O_ (Ae 64 7) 78 9<|It Z8 [92,J 0] 94 (.callF 160 Bu [J 6] 95 (.cons 0 (Li Qr [73,92] 96<|Dn (Ae 85 6++[96])) (.cons 1 (.done (.tup [J 1,96])) .nil)))<|It Qu [92,74] 95 (.callF 160 Bu [J 6] 96 (.cons 0 (Li Qr [73,92] 97<|Dn (Ae 85 6++[97])) (.cons 1 (.done (.tup [J 1,97])) .nil)))<|Li Qr [73,92] 96<|Dn (Ae 85 6++[96])
def HF_:VC:=⟨⟨[],[]⟩,[],[],0,true,[]⟩
def nW:VT:=It Q7 [64,J 0] 65 (.done (.tup [J 1,64]))<|Dn []
def HJ_:VC:=⟨⟨[],[]⟩,[],[],0,true,[]⟩
def kH:VT:=.ite 64 (.done (.agg [J 1,J 1,.flt .f64 0]))<|.done (.agg [J 1,J 0,.flt .f64 0])
def fX:VC:=⟨⟨[],[]⟩,[(167,[(some 3)]),(166,[none,none,none]),(165,[none]),(168,[none,none])],[],2,true,[(121,v_),(123,O_),(160,Bu)]⟩
def Ss:VT:=Cf 123 O_ (Ae 64 7) 78 9<|It Q1 [71,J 15] 94 (It Q1 [71,J 16] 95 (Cf 123 O_ [85,86,66,87,88,89,90] 96 9<|It Q4 [71,J 9] 112 (Li Q8 [71,J 12] 113<|Iq 72 5 114 (.call 166 [71,111,93] 115 [none,none,none]<|It Q6 [117] 118 (.callF 160 Bu [J 4] 119 (.cons 0 (Dn (Ae 103 6)) (.cons 1 (.done (.tup [J 1,120])) .nil)))<|.ite 113 (.call 167 [116] 119 [(some 3)]<|Cf 121 v_ [103,104,66,105,106,107,108,119,120,121] 122 6<|Dn (Ae 132 6))<|Cf 121 v_ [103,104,66,105,106,107,108,J 5,J 0,115] 119 6<|Dn (Ae 129 6))<|.call 165 [72,110] 115 [none]<|.call 165 [72,92] 116 [none]<|.call 168 [71,72,115,116] 117 [none,none]<|.callF 160 Bu [118] 119 (.cons 0 (.ite 113 (Li Qc [117,J 0] 120<|.call 167 [120] 121 [(some 3)]<|Cf 121 v_ [103,104,66,105,106,107,108,121,122,123] 124 6<|Dn (Ae 134 6))<|Cf 121 v_ [103,104,66,105,106,107,108,72,117,.flt .f64 0] 120 6<|Dn (Ae 130 6)) (.cons 1 (.done (.tup [J 1,120])) .nil)))<|Iq 72 5 113 (.call 166 [71,111,93] 114 [none,none,none]<|It Q6 [116] 117 (.callF 160 Bu [J 4] 118 (.cons 0 (Dn (Ae 103 6)) (.cons 1 (.done (.tup [J 1,119])) .nil)))<|Cf 121 v_ [103,104,66,105,106,107,108,J 5,J 0,114] 118 6<|Dn (Ae 128 6))<|.call 165 [72,110] 114 [none]<|.call 165 [72,92] 115 [none]<|.call 168 [71,72,114,115] 116 [none,none]<|.callF 160 Bu [117] 118 (.cons 0 (Cf 121 v_ [103,104,66,105,106,107,108,72,116,.flt .f64 0] 119 6<|Dn (Ae 129 6)) (.cons 1 (.done (.tup [J 1,119])) .nil)))<|It Q4 [71,J 9] 96 (Li Q8 [71,J 12] 97<|Iq 72 5 98 (.call 166 [71,93,93] 99 [none,none,none]<|It Q6 [101] 102 (.callF 160 Bu [J 4] 103 (.cons 0 (Dn (Ae 85 6)) (.cons 1 (.done (.tup [J 1,104])) .nil)))<|.ite 97 (.call 167 [100] 103 [(some 3)]<|Cf 121 v_ [85,86,66,87,88,89,90,103,104,105] 106 6<|Dn (Ae 116 6))<|Cf 121 v_ [85,86,66,87,88,89,90,J 5,J 0,99] 103 6<|Dn (Ae 113 6))<|.call 165 [72,92] 99 [none]<|.call 165 [72,92] 100 [none]<|.call 168 [71,72,99,100] 101 [none,none]<|.callF 160 Bu [102] 103 (.cons 0 (.ite 97 (Li Qc [101,J 0] 104<|.call 167 [104] 105 [(some 3)]<|Cf 121 v_ [85,86,66,87,88,89,90,105,106,107] 108 6<|Dn (Ae 118 6))<|Cf 121 v_ [85,86,66,87,88,89,90,72,101,.flt .f64 0] 104 6<|Dn (Ae 114 6)) (.cons 1 (.done (.tup [J 1,104])) .nil)))<|Iq 72 5 97 (.call 166 [71,93,93] 98 [none,none,none]<|It Q6 [100] 101 (.callF 160 Bu [J 4] 102 (.cons 0 (Dn (Ae 85 6)) (.cons 1 (.done (.tup [J 1,103])) .nil)))<|Cf 121 v_ [85,86,66,87,88,89,90,J 5,J 0,98] 102 6<|Dn (Ae 112 6))<|.call 165 [72,92] 98 [none]<|.call 165 [72,92] 99 [none]<|.call 168 [71,72,98,99] 100 [none,none]<|.callF 160 Bu [101] 102 (.cons 0 (Cf 121 v_ [85,86,66,87,88,89,90,72,100,.flt .f64 0] 103 6<|Dn (Ae 113 6)) (.cons 1 (.done (.tup [J 1,103])) .nil)))<|It Q4 [71,J 9] 95 (Li Q8 [71,J 12] 96<|Iq 72 5 97 (.call 166 [71,93,93] 98 [none,none,none]<|It Q6 [100] 101 (.callF 160 Bu [J 4] 102 (.cons 0 (Dn (Ae 85 6)) (.cons 1 (.done (.tup [J 1,103])) .nil)))<|.ite 96 (.call 167 [99] 102 [(some 3)]<|Cf 121 v_ [85,86,66,87,88,89,90,102,103,104] 105 6<|Dn (Ae 115 6))<|Cf 121 v_ [85,86,66,87,88,89,90,J 5,J 0,98] 102 6<|Dn (Ae 112 6))<|.call 165 [72,92] 98 [none]<|.call 165 [72,92] 99 [none]<|.call 168 [71,72,98,99] 100 [none,none]<|.callF 160 Bu [101] 102 (.cons 0 (.ite 96 (Li Qc [100,J 0] 103<|.call 167 [103] 104 [(some 3)]<|Cf 121 v_ [85,86,66,87,88,89,90,104,105,106] 107 6<|Dn (Ae 117 6))<|Cf 121 v_ [85,86,66,87,88,89,90,72,100,.flt .f64 0] 103 6<|Dn (Ae 113 6)) (.cons 1 (.done (.tup [J 1,103])) .nil)))<|Iq 72 5 96 (.call 166 [71,93,93] 97 [none,none,none]<|It Q6 [99] 100 (.callF 160 Bu [J 4] 101 (.cons 0 (Dn (Ae 85 6)) (.cons 1 (.done (.tup [J 1,102])) .nil)))<|Cf 121 v_ [85,86,66,87,88,89,90,J 5,J 0,97] 101 6<|Dn (Ae 111 6))<|.call 165 [72,92] 97 [none]<|.call 165 [72,92] 98 [none]<|.call 168 [71,72,97,98] 99 [none,none]<|.callF 160 Bu [100] 101 (.cons 0 (Cf 121 v_ [85,86,66,87,88,89,90,72,99,.flt .f64 0] 102 6<|Dn (Ae 112 6)) (.cons 1 (.done (.tup [J 1,102])) .nil))
def Hu_:VC:=⟨⟨[],[]⟩,[(164,[none,none]),(165,[none])],[],2,true,[(121,v_),(123,O_),(160,Bu)]⟩
def bL:VT:=Cf 123 O_ (Ae 64 7) 78 9<|Iq 72 5 94 (Iq 74 5 95 (Cf 121 v_ [85,86,66,87,88,89,90,J 5,J 0,93] 96 6<|Dn (Ae 106 6))<|Iq 72 5 96 (Li Zz [92] 97<|Cf 121 v_ [85,86,66,87,88,89,90,J 5,J 0,97] 98 6<|Dn (Ae 108 6))<|Iq 74 5 97 (.call 164 [72,93] 98 [none,none]<|.callF 160 Bu [99] 100 (.cons 0 (Cf 121 v_ [85,86,66,87,88,89,90,72,98,.flt .f64 0] 101 6<|Dn (Ae 111 6)) (.cons 1 (.done (.tup [J 1,101])) .nil)))<|.call 165 [72,92] 98 [none]<|Cf 121 v_ [85,86,66,87,88,89,90,72,98,.flt .f64 0] 99 6<|Dn (Ae 109 6))<|Iq 72 5 95 (Li Zz [92] 96<|Cf 121 v_ [85,86,66,87,88,89,90,J 5,J 0,96] 97 6<|Dn (Ae 107 6))<|Iq 74 5 96 (.call 164 [72,93] 97 [none,none]<|.callF 160 Bu [98] 99 (.cons 0 (Cf 121 v_ [85,86,66,87,88,89,90,72,97,.flt .f64 0] 100 6<|Dn (Ae 110 6)) (.cons 1 (.done (.tup [J 1,100])) .nil)))<|.call 165 [72,92] 97 [none]<|Cf 121 v_ [85,86,66,87,88,89,90,72,97,.flt .f64 0] 98 6<|Dn (Ae 108 6)
def KR (m:MS) (s:AV):List AV:=[.int .i64 m.pc,s,c_ m.mem,.int .i64 m.used,.int .i64 m.now,.bool m.over,.int .i64 m.err]
def KS (m:MS) (s:AV):List AV:=[.int .i64 m.pc,s,.int .i64 m.used,.int .i64 m.now,.bool m.over,.int .i64 m.err]
def Mv (m:MS) {s:AV} (hs:okC s=true) {l:List AV} (hl:Ak l=true):Ak (KR m s++l)=true:=A9.okL_join (by simp only [KR,Ak,okC,G_,hs]) hl
def EJ (m:MS) {s:AV} (hs:okC s=true):Ak (KR m s)=true:=by simp only [KR,Ak,okC,G_,hs]
def hZ (m:MS) {s:AV} (hs:okC s=true) {l:List AV} (hl:Ak l=true):Ak (KS m s++l)=true:=A9.okL_join (by simp only [KS,Ak,okC,hs]) hl
def pi (m:MS) {s:AV} (hs:okC s=true):Ak (KS m s)=true:=by simp only [KS,Ak,okC,hs]
abbrev St (l:List FV) (s:AV):Prop:=SlV f_ 3 l s
theorem St.okC {l:List FV} {s:AV} (h:St l s):okC s=true:=SlV.ok h BI
def xX (l:List FV) (i:Nat):CJ (Nat.mul (l.take i).length 3) (Ay f_ l)=some (Ay f_ (l.take i)):=by have h:=JC (Ay f_ (l.take i)) (Ay f_ (l.drop i));rw [←ID,List.take_append_drop,Ei Eh]at h;exact h
def sG (l:List FV) {i:Nat} (hi:i<=l.length) (hne:l≠[]):(XOp.tkx).run Tryz.prog [c_ l,c_ l,.int .i64 (i:Int)]=some (Ba f_ 3 (l.take i)):=by
 have ht:=xX l i;have hlen:(l.take i).length=i:=by rw [List.length_take];omega
 rw [hlen]at ht;cases l with
 |nil=>exact absurd rfl hne
 |cons a r=>
  have hb:(Nat.beq 3 3&&(Nat.ble i (r.length+1)&&Nat.ble i (r.length+1)))=true:=(by have:i<=r.length+1:=hi;simp [this]);show (match Nat.beq 3 3&&(Nat.ble i (r.length+1)&&Nat.ble i (r.length+1))with
   |true=>match CJ (Nat.mul i 3) (Ay f_ (a::r))with
    |some cs'=>some (AV.vsl i 3 cs')
    |none=>none
   |false=>none)=_
  rw [hb];simp only [ht];unfold Ba;rw [hlen]
def yA (m:MS) (st:List FV) (v:FV):Nat->List AV->Prop:=λ_ ws=>∃s,St st s/\ws=KS m s++f_ v
def Gx {m:MS} {s:AV} {st:List FV} {v:FV} (hs:St (st++[v]) s) (hl:st.length<=100):Bl 123 O_ (KR m s) (yA m st v):=by
 have e:s=c_ (st++[v]):=SlV.eq hs (by simp);subst e;have hlen:(st++[v]).length=st.length+1:=by simp
 have hi:st.length<(st++[v]).length:=by omega
 have hv:(st++[v])[st.length]=v:=by simp
 have htk:=sG (st++[v]) (i:=st.length) (by omega) (by simp);rw [List.take_left]at htk;have hld:=MJ (st++[v]) hi;rw [hv]at hld;refine B3 Ht_ dN rfl rfl (by kernel_rfl) λY hf hg=>?_;unfold dN;refine Aa (TH (st++[v])) rfl (Aa (V_ (z:=(st.length:Int)) (by rw [hlen];omega) (by omega) (by omega)) rfl ?_);refine Aa (A_ (st++[v]) hi) rfl (BV hld rfl (BI v) (Aa htk (DD BI st) ?_));exact Ai (show Ak (KS m (Ba f_ 3 st)++f_ v)=true from hZ m (DD BI st) (BI v)) ⟨Ba f_ 3 st,.inl rfl,rfl⟩
def yO (m:MS) (st:List FV):Nat->List AV->Prop:=λ_ ws=>∃s,St st s/\ws=KS m s
def l8 {m:MS} {s:AV} {st:List FV} {v:FV} (hs:St st s) (hl:st.length<=100):Bl 121 v_ (KR m s++f_ v) (yO m (st++[v])):=by obtain ⟨r,h1,h2⟩:=SlV.app1 (P:=Tryz.prog) (bytes:=24) Eh (by decide) (by decide) hs v (by omega);refine B3 wQ oU rfl rfl (by kernel_rfl) λY hf hg=>?_;unfold oU;exact Aa h1 (St.okC h2) (Ai (show Ak (KS m r)=true from pi m (St.okC h2)) ⟨r,h2,rfl⟩)
def MW (e:Int):Bl 160 Bu [.int .i64 e] (vb e):=by
 refine B3 HF_ nW rfl rfl (by kernel_rfl) λY hf hg=>?_;unfold nW
 (refine g_ rfl rfl ?_ ?_<;>intro h<;>simp only [nc]at h<;>try omega)
 exact Ai rfl (.inr ⟨rfl,h,rfl⟩);exact Ai rfl (.inl ⟨rfl,h,rfl⟩)
def VJ (b:Bool):AJ 167 [.bool b] (.agg (f_ ⟨1,tI b,some 0⟩)):=by refine Bx [none] [.bool b] HJ_ kH rfl rfl rfl rfl rfl (by kernel_rfl) λY hf hg=>?_;unfold kH;cases b;exact Ax (t:=false) rfl (λh=>by cases h) (λh=>Ap rfl);exact Ax (t:=true) rfl (λh=>Ap rfl) (λh=>by cases h)
def pV (m:MS) (st:List FV) (x:FV) (i:GI):Nat->List AV->Prop:=λj ws=>
 ((x.i<0\/i.n<=x.i)/\j=1/\ws=[.int .i64 6])\/(¬(x.i<0\/i.n<=x.i)/\j=0/\∃s,St st s/\ws=KS m s++[.int .i64 (i.ad+x.i)])
def o8 {m:MS} {s:AV} {st:List FV} {x:FV} {i:GI} (hs:St (st++[x]) s) (hl:st.length<=100) (ha:i.ad=8) (hn:i.n=4):Bl 122 V8 (KR m s++k_ i) (pV m st x i):=by
 obtain ⟨op,kd,ad,n,vk,vi,vf⟩:=i;simp only at ha hn;subst ha hn;refine B3 wK oi rfl rfl (by kernel_rfl) λY hf hg=>?_;unfold oi;refine BL (Gx (m:=m) hs hl) (show Ak (KR m s)=true from EJ m (St.okC hs)) ⟨?_,trivial⟩;rintro ws ⟨s1,hs1,rfl⟩
 (refine g_ rfl rfl ?_ ?_<;>intro h<;>simp only [nc]at h<;>try omega)
 refine BL (MW 6) rfl ⟨?_,?_,trivial⟩;rintro ws (⟨_,h0,_⟩|⟨h0,_⟩);cases h0;cases h0;rintro ws (⟨h0,_⟩|⟨_,_,rfl⟩);cases h0;exact Ai rfl (.inl ⟨.inl h,rfl,rfl⟩);have h1:=h
 (refine g_ rfl rfl ?_ ?_<;>intro h<;>simp only [nc]at h<;>try omega)
 refine BL (MW 6) rfl ⟨?_,?_,trivial⟩;rintro ws (⟨_,h0,_⟩|⟨h0,_⟩);cases h0;cases h0;rintro ws (⟨h0,_⟩|⟨_,_,rfl⟩);cases h0;exact Ai rfl (.inl ⟨.inr h,rfl,rfl⟩);exact Aa (o_ (x:=8) (y:=x.i) (by omega) (by omega)) rfl (Ai (show Ak (KS m s1++[.int .i64 (8+x.i)])=true from hZ m (St.okC hs1) rfl) (.inr ⟨by show ¬(x.i<0\/4<=x.i);omega,rfl,s1,hs1,rfl⟩))
def J6 (m:MS) (st:List FV) (r:Except Int FV):Nat->List AV->Prop:=λj ws=>(∃v s,r=.ok v/\j=0/\St (st++[v]) s/\ws=KS m s)\/(∃e,r=.error e/\j=1/\ws=[.int .i64 e])
def Y_ {m:MS} {s:AV} {st:List FV} {v:FV} {r:Except Int FV} (hs:St st s) (hl:st.length<=100) (hr:r=.ok v) {Y:Sy} {L:List (Nat->List AV->Prop)} {hv hw:List AV} {n:Nat} (h:An Y.v hv=KR m s++f_ v)
  (hw':∀s',St (st++[v]) s'->An ((Y.puts n (KR m s++f_ v)).puts (n+10) (KS m s')).v hw=KS m s'):AC Tryz.prog (QF (J6 m st r)) L Y (.callF 121 v_ hv n (.cons 6 (.done (.tup (.int .i64 0::hw))) .nil)):=by
 have hp:=l8 (m:=m) (v:=v) hs hl;rw [←h]at hp;refine BL hp (by rw [h];exact Mv m (St.okC hs) (BI v)) ⟨?_,trivial⟩;rintro ws ⟨s1,hs1,rfl⟩;rw [h];have e:=hw' s1 hs1;refine Ai (j:=0) ?_ ?_;show Ak (An ((Y.puts n (KR m s++f_ v)).puts (n+10) (KS m s1)).v hw)=true;rw [e];exact pi m (St.okC hs1);show J6 m st r 0 (An ((Y.puts n (KR m s++f_ v)).puts (n+10) (KS m s1)).v hw);rw [e];exact .inl ⟨v,s1,hr,rfl,hs1,rfl⟩
def uP {m:MS} {s:AV} {st:List FV} {a b:FV} {i:GI} (hs:St (st++[a,b]) s) (hl:st.length<=90) (ho:Do i.op i.kd) (h14:i.op<=14) (ta:TV a) (tb:TV b) (hka:a.k=i.kd) (hkb:b.k=i.kd):
  Bl 126 NF (KR m s++k_ i) (J6 m st (CV i.op a b)):=by
 obtain ⟨op,kd,ad,n,vk,vi,vf⟩:=i;simp only at ho h14 hka hkb;have hs':St ((st++[a])++[b]) s:=by rw [List.append_assoc];exact hs
 have hl1:st.length<=100:=by omega
 refine B3 fX Ss rfl rfl (by kernel_rfl) λY hf hg=>?_;unfold Ss;refine BL (Gx (m:=m) hs' (by simp;omega)) (show Ak (KR m s)=true from EJ m (St.okC hs)) ⟨?_,trivial⟩;rintro ws ⟨s0,hs0,rfl⟩
 (refine g_ rfl rfl ?_ ?_<;>intro h<;>simp only [nc]at h<;>try omega)
 (refine g_ rfl rfl ?_ ?_<;>intro h<;>simp only [nc]at h<;>try omega)
 refine BL (Gx (m:=m) hs0 hl1) (show Ak (KR m s0)=true from EJ m (St.okC hs0)) ⟨?_,trivial⟩;rintro ws ⟨s1,hs1,rfl⟩;show AC Tryz.prog (QF (J6 m st (CV op a b))) _ _ _;clear hs hs'
 (
  by_cases h5:kd=5
  .have hr:=bg (h5▸ho);have hw:CV op a b=.ok (Kj op a.f (b).f):=(by unfold CV Dp D7;rw [hka,Ad h5,Ad rfl,Ad h5]);rw [bd hr]at hw
   (refine g_ rfl rfl ?_ ?_<;>intro h<;>simp only [nc]at h<;>try omega)
   .refine Aa (Bq ..) rfl ?_
    (refine g_ rfl rfl ?_ ?_<;>intro h<;>simp only [nc]at h<;>try omega)
    refine Aq (TL op a.f (b).f hr) rfl (by simp only [Ak,okC,CY]) (Aa rfl rfl (Ax (t:=false) rfl (λh=>by cases h) (λ_=>Ax rfl (λh12=>?_) (λh12=>?_))));have h12:op<=12:=AU h12;rw [Ad (by omega)]at hw;exact Aq (VJ _) rfl rfl (Y_ (v:=⟨1,tI (PV op a.f (b).f),some 0⟩) hs1 hl1 hw rfl (λs' _=>rfl));have h12:¬op<=12:=Ce h12;rw [Ab (by omega)]at hw;exact Y_ (v:=⟨5,0,Mk op a.f (b).f⟩) hs1 hl1 hw rfl (λs' _=>rfl)
   .rw [Ab (by omega)]at hw
    (refine g_ rfl rfl ?_ ?_<;>intro h<;>simp only [nc]at h<;>try omega)
    exact Aq (TL op a.f (b).f hr) rfl (by simp only [Ak,okC,CY]) (Aa rfl rfl (Ax (t:=false) rfl (λh=>by cases h) (λ_=>Y_ (v:=⟨5,0,Mk op a.f (b).f⟩) hs1 hl1 hw rfl (λs' _=>rfl))))
  .have wa:=LU (hka▸ta.1) h5;have wb:=LU (hkb▸tb.1) h5;have p1:=Kr kd a.i;have p2:=Kr kd (b).i;rw [wa]at p1;rw [wb]at p2;have p3:=bU op kd a.i (b).i ho h5;have he:Dp op kd b=CU op (b).i:=(by unfold Dp;rw [Ab h5]);have hi0:CU op (b).i=0->E_ op kd a.i (b).i=Dk op kd a.i (b).i:=λh0=>(by unfold E_;rw [Ad h0]);have hw:CU op (b).i=0->CV op a b=.ok ⟨if 9<=op/\op<=12 then 1 else kd,E_ op kd a.i (b).i,some 0⟩:=λh0=>(by unfold CV D7;rw [hka,he,Ad h0,Ab h5,hi0 h0]);have hx:CU op (b).i≠0->CV op a b=.error (CU op (b).i):=λh0=>by unfold CV;rw [hka,he,Ab h0]
   (refine g_ rfl rfl ?_ ?_<;>intro h<;>simp only [nc]at h<;>try omega)
   .refine Aa (Bq ..) rfl ?_
    (refine g_ rfl rfl ?_ ?_<;>intro h<;>simp only [nc]at h<;>try omega)
    refine Aq p1 rfl rfl (Aq p2 rfl rfl (Aq p3 rfl rfl (BL (MW _) rfl ⟨?_,?_,trivial⟩)));rintro ws (⟨_,h0,rfl⟩|⟨h0,_⟩);have hw:=hw h0;refine Ax rfl (λh12=>?_) (λh12=>?_);have h12:op<=12:=AU h12;rw [Ad (by omega)]at hw;have ht:tI (decide (¬E_ op kd a.i (b).i=0))=E_ op kd a.i (b).i:=(by rw [hi0 h0,Lz (by omega)];cases LR op a.i (b).i<;>rfl);rw [←ht]at hw;exact Aa (Al ..) rfl (Aq (VJ _) rfl rfl (Y_ (v:=⟨1,tI (decide (¬E_ op kd a.i (b).i=0)),some 0⟩) hs1 hl1 hw (by by_cases hb:E_ op kd a.i (b).i=0<;>simp [hb]<;>rfl) (λs' _=>rfl)));have h12:¬op<=12:=Ce h12;rw [Ab (by omega)]at hw;exact Y_ (v:=⟨kd,E_ op kd a.i (b).i,some 0⟩) hs1 hl1 hw rfl (λs' _=>rfl);cases h0;rintro ws (⟨h0,_⟩|⟨_,h0,rfl⟩);cases h0;exact Ai (j:=1) rfl (.inr ⟨_,hx h0,rfl,rfl⟩)
   ·(refine g_ rfl rfl ?_ ?_<;>intro h<;>simp only [nc]at h<;>try omega)
    refine Aq p1 rfl rfl (Aq p2 rfl rfl (Aq p3 rfl rfl (BL (MW _) rfl ⟨?_,?_,trivial⟩)));rintro ws (⟨_,h0,rfl⟩|⟨h0,_⟩);have hw:=hw h0;rw [Ab (by omega)]at hw;exact Y_ (v:=⟨kd,E_ op kd a.i (b).i,some 0⟩) hs1 hl1 hw rfl (λs' _=>rfl);cases h0
    .rintro ws (⟨h0,_⟩|⟨_,h0,rfl⟩);cases h0
     .exact Ai (j:=1) rfl (.inr ⟨_,hx h0,rfl,rfl⟩))
def sM {m:MS} {s:AV} {st:List FV} {a:FV} {i:GI} (hs:St (st++[a]) s) (hl:st.length<=90) (ho:Do i.op i.kd) (h14:i.op=15\/i.op=16) (ta:TV a) (hka:a.k=i.kd):
  Bl 126 NF (KR m s++k_ i) (J6 m st (CV i.op a a)):=by
 obtain ⟨op,kd,ad,n,vk,vi,vf⟩:=i;simp only at ho h14 hka;have hl1:st.length<=100:=by omega
 refine B3 fX Ss rfl rfl (by kernel_rfl) λY hf hg=>?_;unfold Ss;refine BL (Gx (m:=m) hs hl1) (show Ak (KR m s)=true from EJ m (St.okC hs)) ⟨?_,trivial⟩;rintro ws ⟨s1,hs1,rfl⟩;show AC Tryz.prog (QF (J6 m st (CV op a a))) _ _ _;have hkb:=hka;have tb:=ta
 (refine g_ rfl rfl ?_ ?_<;>intro h<;>simp only [nc]at h<;>try omega)
 case' refine_1=>
  (refine g_ rfl rfl ?_ ?_<;>intro h<;>simp only [nc]at h<;>try omega)
  clear h;clear h;clear h14
 case' refine_2=>clear h h14
 all_goals (
            by_cases h5:kd=5
            .have hr:=bg (h5▸ho);have hw:CV op a a=.ok (Kj op a.f (a).f):=(by unfold CV Dp D7;rw [hka,Ad h5,Ad rfl,Ad h5]);rw [bd hr]at hw
             (refine g_ rfl rfl ?_ ?_<;>intro h<;>simp only [nc]at h<;>try omega)
             .refine Aa (Bq ..) rfl ?_
              (refine g_ rfl rfl ?_ ?_<;>intro h<;>simp only [nc]at h<;>try omega)
              refine Aq (TL op a.f (a).f hr) rfl (by simp only [Ak,okC,CY]) (Aa rfl rfl (Ax (t:=false) rfl (λh=>by cases h) (λ_=>Ax rfl (λh12=>?_) (λh12=>?_))));have h12:op<=12:=AU h12;rw [Ad (by omega)]at hw;exact Aq (VJ _) rfl rfl (Y_ (v:=⟨1,tI (PV op a.f (a).f),some 0⟩) hs1 hl1 hw rfl (λs' _=>rfl));have h12:¬op<=12:=Ce h12;rw [Ab (by omega)]at hw;exact Y_ (v:=⟨5,0,Mk op a.f (a).f⟩) hs1 hl1 hw rfl (λs' _=>rfl)
             .rw [Ab (by omega)]at hw
              (refine g_ rfl rfl ?_ ?_<;>intro h<;>simp only [nc]at h<;>try omega)
              exact Aq (TL op a.f (a).f hr) rfl (by simp only [Ak,okC,CY]) (Aa rfl rfl (Ax (t:=false) rfl (λh=>by cases h) (λ_=>Y_ (v:=⟨5,0,Mk op a.f (a).f⟩) hs1 hl1 hw rfl (λs' _=>rfl))))
            .have wa:=LU (hka▸ta.1) h5;have wb:=LU (hkb▸tb.1) h5;have p1:=Kr kd a.i;have p2:=Kr kd (a).i;rw [wa]at p1;rw [wb]at p2;have p3:=bU op kd a.i (a).i ho h5;have he:Dp op kd a=CU op (a).i:=(by unfold Dp;rw [Ab h5]);have hi0:CU op (a).i=0->E_ op kd a.i (a).i=Dk op kd a.i (a).i:=λh0=>(by unfold E_;rw [Ad h0]);have hw:CU op (a).i=0->CV op a a=.ok ⟨if 9<=op/\op<=12 then 1 else kd,E_ op kd a.i (a).i,some 0⟩:=λh0=>(by unfold CV D7;rw [hka,he,Ad h0,Ab h5,hi0 h0]);have hx:CU op (a).i≠0->CV op a a=.error (CU op (a).i):=λh0=>by unfold CV;rw [hka,he,Ab h0]
             (refine g_ rfl rfl ?_ ?_<;>intro h<;>simp only [nc]at h<;>try omega)
             .refine Aa (Bq ..) rfl ?_
              (refine g_ rfl rfl ?_ ?_<;>intro h<;>simp only [nc]at h<;>try omega)
              refine Aq p1 rfl rfl (Aq p2 rfl rfl (Aq p3 rfl rfl (BL (MW _) rfl ⟨?_,?_,trivial⟩)));rintro ws (⟨_,h0,rfl⟩|⟨h0,_⟩);have hw:=hw h0;refine Ax rfl (λh12=>?_) (λh12=>?_);have h12:op<=12:=AU h12;rw [Ad (by omega)]at hw;have ht:tI (decide (¬E_ op kd a.i (a).i=0))=E_ op kd a.i (a).i:=(by rw [hi0 h0,Lz (by omega)];cases LR op a.i (a).i<;>rfl);rw [←ht]at hw;exact Aa (Al ..) rfl (Aq (VJ _) rfl rfl (Y_ (v:=⟨1,tI (decide (¬E_ op kd a.i (a).i=0)),some 0⟩) hs1 hl1 hw (by by_cases hb:E_ op kd a.i (a).i=0<;>simp [hb]<;>rfl) (λs' _=>rfl)));have h12:¬op<=12:=Ce h12;rw [Ab (by omega)]at hw;exact Y_ (v:=⟨kd,E_ op kd a.i (a).i,some 0⟩) hs1 hl1 hw rfl (λs' _=>rfl);cases h0;rintro ws (⟨h0,_⟩|⟨_,h0,rfl⟩);cases h0;exact Ai (j:=1) rfl (.inr ⟨_,hx h0,rfl,rfl⟩)
             ·(refine g_ rfl rfl ?_ ?_<;>intro h<;>simp only [nc]at h<;>try omega)
              refine Aq p1 rfl rfl (Aq p2 rfl rfl (Aq p3 rfl rfl (BL (MW _) rfl ⟨?_,?_,trivial⟩)));rintro ws (⟨_,h0,rfl⟩|⟨h0,_⟩);have hw:=hw h0;rw [Ab (by omega)]at hw;exact Y_ (v:=⟨kd,E_ op kd a.i (a).i,some 0⟩) hs1 hl1 hw rfl (λs' _=>rfl);cases h0
              .rintro ws (⟨h0,_⟩|⟨_,h0,rfl⟩);cases h0
               .exact Ai (j:=1) rfl (.inr ⟨_,hx h0,rfl,rfl⟩))
def s9 {m:MS} {s:AV} {st:List FV} {a:FV} {i:GI} (hs:St (st++[a]) s) (hl:st.length<=90) (hk:2<=i.kd/\i.kd<=5) (hn:2<=i.n/\i.n<=5) (ta:TV a) (hka:a.k=i.n):
  Bl 125 W2 (KR m s++k_ i) (J6 m st (H_ i.kd a)):=by
 obtain ⟨op,kd,ad,n,vk,vi,vf⟩:=i;simp only at hk hn hka;have hl1:st.length<=100:=by omega
 refine B3 Hu_ bL rfl rfl (by kernel_rfl) λY hf hg=>?_;unfold bL;refine BL (Gx (m:=m) hs hl1) (show Ak (KR m s)=true from EJ m (St.okC hs)) ⟨?_,trivial⟩;rintro ws ⟨s1,hs1,rfl⟩;show AC Tryz.prog (QF (J6 m st (H_ kd a))) _ _ _
 (refine g_ rfl rfl ?_ ?_<;>intro h<;>simp only [nc]at h<;>try omega)
 .subst h
  (refine g_ rfl rfl ?_ ?_<;>intro h<;>simp only [nc]at h<;>try omega)
  have ha:a=⟨5,0,a.f⟩:=(by have h0:a.i=0:=(by rcases ta.1 with q|q|q|q|q<;>omega);obtain ⟨k,i,f⟩:=a;simp only at hka h0;subst hka h0;rw [h]);have hw:H_ 5 a=.ok ⟨5,0,a.f⟩:=(by unfold H_;rw [Ad rfl,Ad (by omega),←ha]);exact Y_ (v:=⟨5,0,a.f⟩) hs1 hl1 hw rfl (λs' _=>rfl)
  .have h5:=h
   (refine g_ rfl rfl ?_ ?_<;>intro h<;>simp only [nc]at h<;>try omega)
   exact Aa (fo _) rfl (Y_ (v:=⟨5,0,some (FloatKind.f64.nearest a.i)⟩) hs1 hl1 (by unfold H_;rw [Ad rfl,Ab (by omega)]) rfl (λs' _=>rfl))
 have hk4:2<=kd/\kd<=4:=by omega
 (refine g_ rfl rfl ?_ ?_<;>intro h<;>simp only [nc]at h<;>try omega)
 (refine g_ rfl rfl ?_ ?_<;>intro h<;>simp only [nc]at h<;>try omega)
 .have h5:=h;refine Aq (w7 hk4 a.f) rfl rfl (BL (MW _) rfl ⟨?_,?_,trivial⟩)
  .rintro ws (⟨_,h0,rfl⟩|⟨h0,_⟩)
   .cases hw:M_ kd a.f with
    |some n=>have e2:GU kd a.f=n:=(by unfold GU;rw [hw];rfl);rw [←e2]at hw;exact Y_ (v:=⟨kd,GU kd a.f,some 0⟩) hs1 hl1 (by unfold H_;rw [Ab (by omega),Ad (by omega),hw]) rfl (λs' _=>rfl)
    |none=>unfold Z_ at h0;rw [hw]at h0;cases h0
   cases h0
  .rintro ws (⟨h0,_⟩|⟨_,h0,rfl⟩);cases h0
   .cases hw:M_ kd a.f with
    |some n=>unfold Z_ at h0;rw [hw]at h0;exact absurd rfl h0
    |none=>have e1:Z_ kd a.f=7:=(by unfold Z_;rw [hw];rfl);exact Ai (j:=1) rfl (.inr ⟨7,by unfold H_;rw [Ab (by omega),Ad (by omega),hw],rfl,by show [AV.int .i64 (Z_ kd a.f)]=_;rw [e1]⟩)
 have h5:=h;exact Aq (Kr _ _) rfl rfl (Y_ (v:=⟨kd,F_ kd a.i,some 0⟩) hs1 hl1 (by unfold H_;rw [Ab (by omega),Ab (by omega)]) rfl (λs' _=>rfl))
end Go.Proofs.YtelnbodnjmldeaaGreat.vars
