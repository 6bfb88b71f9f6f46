/-
  A program's instructions: each of one height.
-/
import Derived.Test.YtjconanknjgpnaaVJ
import Derived.Test.YtjconanknjgpnaaFA
set_option maxRecDepth 100000
set_option linter.unusedVariables false
set_option linter.unusedSimpArgs false
namespace Go.Proofs.Ytjconanknjgpnaa.vars
open Go Go.Sx
def nx (h:Nat) (x:GI):Nat:=h-(takesF x).1.toNat+(takesF x).2.toNat
def run:Nat->List GI->Nat
 |h,[]=>h
 |h,x::r=>run (nx h x) r
theorem run_app:∀(a b:List GI) (h:Nat),run h (a++b)=run (run h a) b
 |[],b,h=>rfl
 |x::a,b,h=>by simp only [List.cons_append,run,run_app a b]
structure It (T:Nat->Prop) (h:Nat) (x:GI):Prop where
 lo:0<=(takesF x).1/\0<=(takesF x).2
 le:(takesF x).1.toNat<=h
 up:nx h x<=16
 halt:x.op≠23
 jump:(x.op=20\/x.op=21)->nx h x=0/\∃k:Nat,T k/\x=ins x.op 0 (k:Int) 0
 may:x.op≠20->x.op≠21->May x/\∀n,Placed x n
def Ok (T:Nat->Prop):Nat->List GI->Prop
 |_,[]=>True
 |h,x::r=>It T h x/\Ok T (nx h x) r
theorem ok_app {T:Nat->Prop}:∀(a b:List GI) (h:Nat),Ok T h a->Ok T (run h a) b->Ok T h (a++b)
 |[],b,h,_,h2=>h2
 |x::a,b,h,h1,h2=>⟨h1.1,ok_app a b _ h1.2 h2⟩
theorem ok_at {T:Nat->Prop}:∀(l:List GI) (h:Nat),Ok T h l->∀i (hi:i<l.length),It T (run h (l.take i)) l[i]
 |[],h,_,i,hi=>by simp at hi
 |x::r,h,ho,0,hi=>ho.1
 |x::r,h,ho,i+1,hi=>ok_at r _ ho.2 i (by simpa using hi)
theorem it_of {T:Nat->Prop} {h:Nat} {x:GI} (a b:Nat) (ht:takesF x=((a:Int),(b:Int))) (h1:a<=h) (h2:h-a+b<=16) (h3:x.op≠23/\x.op≠20/\x.op≠21) (hm:May x) (hp:∀n,Placed x n):It T h x/\nx h x=h-a+b:=by
 have e:nx h x=h-a+b:=by unfold nx;rw [ht];simp
 refine ⟨⟨by rw [ht];simp,by rw [ht];simpa using h1,by rw [e];exact h2,h3.1,λq=>?_,λ_ _=>⟨hm,hp⟩⟩,e⟩
 rcases q with q|q
 ·exact absurd q h3.2.1
 ·exact absurd q h3.2.2
theorem ok1 {T:Nat->Prop} {h:Nat} {x:GI} {k:Nat} (hi:It T h x/\nx h x=k):Ok T h [x]/\run h [x]=k:=⟨⟨hi.1,trivial⟩,hi.2⟩
theorem ok2 {T:Nat->Prop} {h k m:Nat} {a b:List GI} (ha:Ok T h a/\run h a=k) (hb:Ok T k b/\run k b=m):Ok T h (a++b)/\run h (a++b)=m:=by
 refine ⟨ok_app a b h ha.1 (by rw [ha.2];exact hb.1),by rw [run_app,ha.2,hb.2]⟩
theorem pl0 {x:GI} (h:x.op≠2/\x.op≠18/\x.op≠3/\x.op≠19/\x.op≠22/\x.op≠20/\x.op≠21) (n:Nat):Placed x n:=by
 obtain ⟨h1,h2,h3,h4,h5,h6,h7⟩:=h
 refine ⟨λq=>?_,λq=>?_,λq=>absurd q h5,λq=>?_⟩
 ·rcases q with q|q
  ·exact absurd q h1
  ·exact absurd q h2
 ·rcases q with q|q
  ·exact absurd q h3
  ·exact absurd q h4
 ·rcases q with q|q
  ·exact absurd q h6
  ·exact absurd q h7
theorem kd0_of {args:List GX} {k:Int} {r:List Int} (h:args.map GX.kd=k::r):kd0 args=k:=by
 cases args with
 |nil=>simp at h
 |cons a l=>simp at h;exact h.1
theorem it0 {T:Nat->Prop} {h:Nat} {x:GI} (o:Int) (hop:x.op=o) (a b:Nat) (ht:takesF x=((a:Int),(b:Int))) (h1:a<=h/\h-a+b<=16) (h3:o≠23/\o≠20/\o≠21) (hm:May x) (hp:∀n,Placed x n):It T h x/\nx h x=h-a+b:=
 it_of a b ht h1.1 h1.2 (by rw [hop];exact h3) hm hp
theorem pl1 {x:GI} (o:Int) (hop:x.op=o) (h:o≠2/\o≠18/\o≠3/\o≠19/\o≠22/\o≠20/\o≠21) (n:Nat):Placed x n:=pl0 (by rw [hop];exact h) n
theorem rng {o:Int} (h:4<=o/\o<=14):(o≠1/\o≠2/\o≠3/\o≠17)/\(o≠23/\o≠20/\o≠21)/\(o≠2/\o≠18/\o≠3/\o≠19/\o≠22/\o≠20/\o≠21):=by
 refine ⟨⟨?_,?_,?_,?_⟩,⟨?_,?_,?_⟩,?_,?_,?_,?_,?_,?_,?_⟩<;>omega
theorem tk_bin {x:GI} (h:4<=x.op/\x.op<=14):takesF x=(((2:Nat):Int),((1:Nat):Int)):=by
 unfold takesF
 rw [if_neg (by omega),if_neg (by omega),if_neg (by omega),if_neg (by omega),if_neg (by omega),if_neg (by omega)];rfl
theorem instE_ok {T:Nat->Prop} {d h:Nat} {op kd ad n vk vi:Int} {nm fd:List UInt8} {vf:Nat} {args:List GX} (hx:TX (d+1) (.mk op kd nm fd ad n vk vi vf args)) (h1:args.length<=h) (h2:h-args.length+1<=16):
  It T h (instE op kd ad n vk vi vf args)/\nx h (instE op kd ad n vk vi vf args)=h-args.length+1:=by
 have g:∀a,args.length=a->(a<=h/\h-a+1<=16):=λa e=>by subst e;exact ⟨h1,h2⟩
 obtain ⟨ha,hf,hk1,hk5,hk,_⟩:=hx
 obtain ⟨c1,c2,c3,c4,c15,c16,c17⟩:=hk
 rcases ha with ⟨ho,hl⟩|⟨ho,hl⟩|⟨ho,hl⟩
 ·rcases ho with rfl|rfl
  ·obtain ⟨q1,q2,q3,q4,q5,q6,q7,q8⟩:=c1 rfl
   have e:instE 1 kd ad n vk vi vf args=⟨1,vk,0,0,vk,vi,vf⟩:=by unfold instE;rw [if_pos rfl]
   have gg:=g _ hl
   rw [e,hl]
   exact it0 1 rfl 0 1 rfl gg (by decide) (may_push ⟨q2,q3,q4,q5,q6,q7,q8⟩ hf) λn=>pl1 1 rfl (by decide) n
  ·obtain ⟨m1,m2,m3⟩:=may_cell (c2 rfl)
   have e:instE 2 kd ad n vk vi vf args=ins 2 0 ad 0:=by unfold instE;rw [if_neg (by decide),if_pos rfl]
   have gg:=g _ hl
   rw [e,hl]
   exact it0 2 rfl 0 1 rfl gg (by decide) m1 λn=>⟨λ_=>m3,λq=>absurd q (show ¬((2:Int)=3\/(2:Int)=19) by decide),λq=>absurd q (show ¬((2:Int)=22) by decide),λq=>absurd q (show ¬((2:Int)=20\/(2:Int)=21) by decide)⟩
 ·rcases ho with rfl|rfl|rfl|rfl
  ·obtain ⟨rfl,rfl,rfl,_⟩:=c3 rfl
   have e:instE 3 2 8 4 vk vi vf args=ins 3 0 8 4:=by unfold instE;rw [if_neg (by decide),if_neg (by decide),if_pos rfl]
   have gg:=g _ hl
   rw [e,hl]
   exact it0 3 rfl 1 1 rfl gg (by decide) may_x.1 λn=>⟨λq=>absurd q (show ¬((3:Int)=2\/(3:Int)=18) by decide),λ_=>⟨rfl,rfl⟩,λq=>absurd q (show ¬((3:Int)=22) by decide),λq=>absurd q (show ¬((3:Int)=20\/(3:Int)=21) by decide)⟩
  ·obtain ⟨rfl,hks⟩:=c15 rfl
   have e:instE 15 1 ad n vk vi vf args=ins 15 1 0 0:=by unfold instE;rw [if_neg (by decide),if_neg (by decide),if_neg (by decide),if_neg (by decide),kd0_of hks]
   have gg:=g _ hl
   rw [e,hl]
   exact it0 15 rfl 1 1 rfl gg (by decide) may_un.1 λn=>pl1 15 rfl (by decide) n
  ·obtain ⟨hks,k2,k5⟩:=c16 rfl
   have e:instE 16 kd ad n vk vi vf args=ins 16 kd 0 0:=by unfold instE;rw [if_neg (by decide),if_neg (by decide),if_neg (by decide),if_neg (by decide),kd0_of hks]
   have gg:=g _ hl
   rw [e,hl]
   exact it0 16 rfl 1 1 rfl gg (by decide) (may_un.2 kd ⟨k2,k5⟩) λn=>pl1 16 rfl (by decide) n
  ·obtain ⟨k2,k5,k,hks,j2,j5⟩:=c17 rfl
   have e:instE 17 kd ad n vk vi vf args=ins 17 kd 0 k:=by unfold instE;rw [if_neg (by decide),if_neg (by decide),if_neg (by decide),if_pos rfl,kd0_of hks]
   have gg:=g _ hl
   rw [e,hl]
   exact it0 17 rfl 1 1 rfl gg (by decide) (may_ch ⟨k2,k5,j2,j5⟩) λn=>pl1 17 rfl (by decide) n
 ·obtain ⟨k,hks,b1,b5,b8,b9,be,b11,b13⟩:=c4 ho
  obtain ⟨⟨n1,n2,n3,n17⟩,r2,r3⟩:=rng ho
  have e:instE op kd ad n vk vi vf args=ins op k 0 0:=by unfold instE;rw [if_neg n1,if_neg n2,if_neg n3,if_neg n17,kd0_of hks]
  have gg:=g _ hl
  rw [e,hl]
  exact it0 op rfl 2 1 (tk_bin ho) gg r2 (may_bin ⟨ho.1,ho.2,b1,b5⟩ (λq=>(b8 q).2) be b11 b13) λn=>pl1 op rfl r3 n
theorem Es_ok {T:Nat->Prop} {d:Nat} (ih:∀(x:GX) (h:Nat),TX d x->h+d<=16->Ok T h (genE x)/\run h (genE x)=h+1):∀(l:List GX) (h:Nat),(∀x∈l,TX d x)->h+l.length+d<=17->Ok T h (genEs l)/\run h (genEs l)=h+l.length
 |[],h,_,_=>⟨trivial,rfl⟩
 |a::r,h,hx,hl=>by
  simp only [List.length_cons]at hl
  have h1:=ih a h (hx a (List.mem_cons_self ..)) (by omega)
  have h2:=Es_ok ih r (h+1) (λx q=>hx x (List.mem_cons_of_mem _ q)) (by omega)
  have:=ok2 h1 h2
  simp only [genEs,List.length_cons]
  rw [show h+(r.length+1)=h+1+r.length by omega]
  exact this
theorem E_ok {T:Nat->Prop}:∀(d:Nat) (x:GX) (h:Nat),TX d x->h+d<=16->Ok T h (genE x)/\run h (genE x)=h+1
 |0,x,h,hx,_=>hx.elim
 |d+1,.mk op kd nm fd ad n vk vi vf args,h,hx,hd=>by
  have hl:args.length<=2:=by have:=hx.1;unfold Ari at this;omega
  have h1:=Es_ok (E_ok (T:=T) d) args h hx.2.2.2.2.2 (by omega)
  have h2:=instE_ok (T:=T) (h:=h+args.length) hx (by omega) (by omega)
  rw [show h+args.length-args.length+1=h+1 by omega]at h2
  simp only [genE]
  exact ok2 h1 (ok1 h2)
end Go.Proofs.Ytjconanknjgpnaa.vars
set_option maxRecDepth 100000
set_option linter.unusedVariables false
set_option linter.unusedSimpArgs false
namespace Go.Proofs.Ytjconanknjgpnaa.vars
open Go Go.Sx
theorem to_ok {T:Nat->Prop} {to:GX} (hx:TX 5 to) (ho:to.op=2\/to.op=3):Ok T 1 (genTo to)/\run 1 (genTo to)=0:=by
 obtain ⟨op,kd,nm,fd,ad,n,vk,vi,vf,args⟩:=to
 obtain ⟨ha,hf,hk1,hk5,hk,hargs⟩:=hx
 obtain ⟨c1,c2,c3,c4,c15,c16,c17⟩:=hk
 have ho:op=2\/op=3:=ho
 rcases ho with rfl|rfl
 ·obtain ⟨m1,m2,m3⟩:=may_cell (c2 rfl)
  have e:genTo (.mk 2 kd nm fd ad n vk vi vf args)=[ins 18 0 ad 0]:=rfl
  rw [e]
  exact ok1 (it0 18 rfl 1 0 rfl (by decide) (by decide) m2 λn=>⟨λ_=>m3,λq=>absurd q (show ¬((18:Int)=3\/(18:Int)=19) by decide),λq=>absurd q (show ¬((18:Int)=22) by decide),λq=>absurd q (show ¬((18:Int)=20\/(18:Int)=21) by decide)⟩)
 ·obtain ⟨rfl,rfl,rfl,k,hks,_⟩:=c3 rfl
  have hl:args.length=1:=by have:=congrArg List.length hks;simpa using this
  have h1:=Es_ok (E_ok (T:=T) 4) args 1 hargs (by rw [hl];decide)
  rw [hl]at h1
  have e:genTo (.mk 3 2 nm fd 8 4 vk vi vf args)=genEs args++[ins 19 0 8 4]:=rfl
  rw [e]
  exact ok2 h1 (ok1 (it0 19 rfl 2 0 rfl (by decide) (by decide) may_x.2.1 λn=>⟨λq=>absurd q (show ¬((19:Int)=2\/(19:Int)=18) by decide),λ_=>⟨rfl,rfl⟩,λq=>absurd q (show ¬((19:Int)=22) by decide),λq=>absurd q (show ¬((19:Int)=20\/(19:Int)=21) by decide)⟩))
theorem nx21 (k:Int):nx 1 (ins 21 0 k 0)=0:=rfl
theorem nx20 (k:Int):nx 0 (ins 20 0 k 0)=0:=rfl
theorem jz_ok {T:Nat->Prop} {k:Nat} (h:T k):It T 1 (ins 21 0 (k:Int) 0) where
 lo:=⟨show (0:Int)<=1 by decide,show (0:Int)<=0 by decide⟩
 le:=show (1:Nat)<=1 by decide
 up:=by rw [nx21];decide
 halt:=by show (21:Int)≠23;decide
 jump:=λ_=>⟨nx21 _,k,h,rfl⟩
 may:=λ_ q=>absurd rfl q
theorem jp_ok {T:Nat->Prop} {k:Nat} (h:T k):It T 0 (ins 20 0 (k:Int) 0) where
 lo:=⟨show (0:Int)<=0 by decide,show (0:Int)<=0 by decide⟩
 le:=show (0:Nat)<=0 by decide
 up:=by rw [nx20];decide
 halt:=by show (20:Int)≠23;decide
 jump:=λ_=>⟨nx20 _,k,h,rfl⟩
 may:=λq _=>absurd rfl q
def Aim (T:Nat->Prop) (b:Nat) (W:List GI):Prop:=∀m,m<=W.length->run 0 (W.take m)=0->T (b+m)
theorem Aim.seg {T:Nat->Prop} {b:Nat} {P Q R:List GI} (hP:run 0 P=0) (h:Aim T b (P++(Q++R))):Aim T (b+P.length) Q:=λm hm hr=>by
 have:=h (P.length+m) (by simp only [List.length_append];omega) (by
  rw [List.take_length_add_append,List.take_append_of_le_length hm,run_app,hP];exact hr)
 rw [Nat.add_assoc];exact this
theorem Aim.at {T:Nat->Prop} {b:Nat} {P Q:List GI} (hP:run 0 P=0) (h:Aim T b (P++Q)):T (b+P.length):=
 h P.length (by simp only [List.length_append];omega) (by rw [List.take_left];exact hP)
theorem Aim.end {T:Nat->Prop} {b:Nat} {P:List GI} (hP:run 0 P=0) (h:Aim T b P):T (b+P.length):=
 h P.length (Nat.le_refl _) (by rw [List.take_length];exact hP)
theorem Ss_ok {T:Nat->Prop} {d:Nat} (ih:∀(s:GS) (b:Nat),TS d s->Aim T b (genS b s)->Ok T 0 (genS b s)/\run 0 (genS b s)=0):∀(l:List GS) (b:Nat),(∀s∈l,TS d s)->Aim T b (genSs b l)->Ok T 0 (genSs b l)/\run 0 (genSs b l)=0
 |[],b,_,_=>⟨trivial,rfl⟩
 |s::r,b,hs,ha=>by
  simp only [genSs]at ha⊢
  have ha1:Aim T b (genS b s):=by
   have:=Aim.seg (P:=[]) (Q:=genS b s) (R:=genSs (b+(genS b s).length) r) rfl ha
   exact this
  have h1:=ih s b (hs s (List.mem_cons_self ..)) ha1
  have ha2:Aim T (b+(genS b s).length) (genSs (b+(genS b s).length) r):=Aim.seg (P:=genS b s) (R:=[]) h1.2 (by rw [List.append_nil];exact ha)
  have h2:=Ss_ok ih r _ (λx q=>hs x (List.mem_cons_of_mem _ q)) ha2
  exact ok2 h1 h2
theorem S_ok {T:Nat->Prop}:∀(d:Nat) (s:GS) (b:Nat),TS d s->Aim T b (genS b s)->Ok T 0 (genS b s)/\run 0 (genS b s)=0
 |0,s,b,hs,_=>hs.elim
 |d+1,.mk op to e thn els nm kd ad args,b,hs,ha=>by
  rcases hs with ⟨rfl,hto,hop,he,_⟩|⟨hop,he,_,_,_,hthn,hels⟩|⟨rfl,hb,hargs⟩
  ·have e1:genS b (.mk 1 to e thn els nm kd ad args)=genE e++genTo to:=by unfold genS;rw [if_pos rfl]
   rw [e1]
   exact ok2 (E_ok 5 e 0 he (by decide)) (to_ok hto hop)
  ·have hc:=E_ok (T:=T) 5 e 0 he (by decide)
   rcases hop with rfl|rfl
   ·by_cases hE:els=[]
    ·have e1:genS b (.mk 2 to e thn els nm kd ad args)=genE e++[ins 21 0 ((b+(genE e).length+1+(genSs (b+(genE e).length+1) thn).length:Nat):Int) 0]++genSs (b+(genE e).length+1) thn:=by
       unfold genS;rw [if_neg (by decide),if_pos rfl,if_pos hE]
     rw [e1]at ha⊢
     obtain ⟨k,hk⟩:∃k,k=b+(genE e).length+1+(genSs (b+(genE e).length+1) thn).length:=⟨_,rfl⟩
     rw [←hk]at ha⊢
     have hP:run 0 (genE e++[ins 21 0 (k:Int) 0])=0:=by rw [run_app,hc.2];exact nx21 _
     have hPl:b+(genE e++[ins 21 0 (k:Int) 0]).length=b+(genE e).length+1:=by simp only [List.length_append,List.length_cons,List.length_nil];omega
     have ht:=Ss_ok (S_ok (T:=T) d) thn (b+(genE e).length+1) hthn (by
      have:=Aim.seg (R:=[]) hP (by rw [List.append_nil];exact ha)
      rw [hPl]at this;exact this)
     have hW:run 0 (genE e++[ins 21 0 (k:Int) 0]++genSs (b+(genE e).length+1) thn)=0:=by rw [run_app,hP,ht.2]
     have hT:=Aim.end hW ha
     have hkT:T k:=by
      have:b+(genE e++[ins 21 0 (k:Int) 0]++genSs (b+(genE e).length+1) thn).length=k:=by simp only [List.length_append,List.length_cons,List.length_nil];omega
      rw [this]at hT;exact hT
     exact ok2 (ok2 hc (ok1 ⟨jz_ok hkT,nx21 _⟩)) ht
    ·have e1:genS b (.mk 2 to e thn els nm kd ad args)=genE e++[ins 21 0 ((b+(genE e).length+1+(genSs (b+(genE e).length+1) thn).length+1:Nat):Int) 0]++genSs (b+(genE e).length+1) thn++[ins 20 0 ((b+(genE e).length+1+(genSs (b+(genE e).length+1) thn).length+1+(genSs (b+(genE e).length+1+(genSs (b+(genE e).length+1) thn).length+1) els).length:Nat):Int) 0]++genSs (b+(genE e).length+1+(genSs (b+(genE e).length+1) thn).length+1) els:=by
       unfold genS;rw [if_neg (by decide),if_pos rfl,if_neg hE]
     rw [e1]at ha⊢
     obtain ⟨t,ht0⟩:∃t,t=genSs (b+(genE e).length+1) thn:=⟨_,rfl⟩
     rw [←ht0]at ha⊢
     obtain ⟨k,hk⟩:∃k,k=b+(genE e).length+1+t.length+1:=⟨_,rfl⟩
     rw [←hk]at ha⊢
     obtain ⟨q,hq0⟩:∃q,q=genSs k els:=⟨_,rfl⟩
     rw [←hq0]at ha⊢
     obtain ⟨j,hj⟩:∃j,j=k+q.length:=⟨_,rfl⟩
     rw [←hj]at ha⊢
     have hP:run 0 (genE e++[ins 21 0 (k:Int) 0])=0:=by rw [run_app,hc.2];exact nx21 _
     have hPl:b+(genE e++[ins 21 0 (k:Int) 0]).length=b+(genE e).length+1:=by simp only [List.length_append,List.length_cons,List.length_nil];omega
     have ht:=Ss_ok (S_ok (T:=T) d) thn (b+(genE e).length+1) hthn (by
      have:=Aim.seg (P:=genE e++[ins 21 0 (k:Int) 0]) (Q:=t) (R:=[ins 20 0 (j:Int) 0]++q) hP (by simpa only [List.append_assoc]using ha)
      rw [hPl,ht0]at this;exact this)
     rw [←ht0]at ht
     have hP2:run 0 (genE e++[ins 21 0 (k:Int) 0]++t++[ins 20 0 (j:Int) 0])=0:=by rw [run_app,run_app,hP,ht.2];exact nx20 _
     have hPl2:b+(genE e++[ins 21 0 (k:Int) 0]++t++[ins 20 0 (j:Int) 0]).length=k:=by simp only [List.length_append,List.length_cons,List.length_nil];omega
     have hq:=Ss_ok (S_ok (T:=T) d) els k hels (by
      have:=Aim.seg (R:=[]) hP2 (by rw [List.append_nil];exact ha)
      rw [hPl2,hq0]at this;exact this)
     rw [←hq0]at hq
     have hkT:T k:=by
      have:=Aim.at hP2 ha
      rw [hPl2]at this;exact this
     have hW:run 0 (genE e++[ins 21 0 (k:Int) 0]++t++[ins 20 0 (j:Int) 0]++q)=0:=by rw [run_app,hP2,hq.2]
     have hjT:T j:=by
      have:=Aim.end hW ha
      rw [List.length_append,←Nat.add_assoc,hPl2,←hj]at this;exact this
     exact ok2 (ok2 (ok2 (ok2 hc (ok1 ⟨jz_ok hkT,nx21 _⟩)) ht) (ok1 ⟨jp_ok hjT,nx20 _⟩)) hq
   ·have e1:genS b (.mk 3 to e thn els nm kd ad args)=genE e++[ins 21 0 ((b+(genE e).length+1+(genSs (b+(genE e).length+1) thn).length+1:Nat):Int) 0]++genSs (b+(genE e).length+1) thn++[ins 20 0 (b:Int) 0]:=by
      unfold genS;rw [if_neg (by decide),if_neg (by decide),if_pos rfl]
    rw [e1]at ha⊢
    obtain ⟨t,ht0⟩:∃t,t=genSs (b+(genE e).length+1) thn:=⟨_,rfl⟩
    rw [←ht0]at ha⊢
    obtain ⟨k,hk⟩:∃k,k=b+(genE e).length+1+t.length+1:=⟨_,rfl⟩
    rw [←hk]at ha⊢
    have hP:run 0 (genE e++[ins 21 0 (k:Int) 0])=0:=by rw [run_app,hc.2];exact nx21 _
    have hPl:b+(genE e++[ins 21 0 (k:Int) 0]).length=b+(genE e).length+1:=by simp only [List.length_append,List.length_cons,List.length_nil];omega
    have ht:=Ss_ok (S_ok (T:=T) d) thn (b+(genE e).length+1) hthn (by
     have:=Aim.seg (P:=genE e++[ins 21 0 (k:Int) 0]) (Q:=t) (R:=[ins 20 0 (b:Int) 0]) hP (by simpa only [List.append_assoc]using ha)
     rw [hPl,ht0]at this;exact this)
    rw [←ht0]at ht
    have hW:run 0 (genE e++[ins 21 0 (k:Int) 0]++t++[ins 20 0 (b:Int) 0])=0:=by rw [run_app,run_app,hP,ht.2];exact nx20 _
    have hkT:T k:=by
     have:=Aim.end hW ha
     have h2:b+(genE e++[ins 21 0 (k:Int) 0]++t++[ins 20 0 (b:Int) 0]).length=k:=by simp only [List.length_append,List.length_cons,List.length_nil];omega
     rw [h2]at this;exact this
    have hbT:T b:=by have:=ha 0 (Nat.zero_le _) rfl;exact this
    exact ok2 (ok2 (ok2 hc (ok1 ⟨jz_ok hkT,nx21 _⟩)) ht) (ok1 ⟨jp_ok hbT,nx20 _⟩)
  ·have e1:genS b (.mk 4 to e thn els nm kd ad args)=genEs args++[ins 22 kd ad (args.length:Int)]:=by unfold genS;rw [if_neg (by decide),if_neg (by decide),if_neg (by decide)]
   obtain ⟨hm,hl⟩:=may_blk hb
   rw [List.length_map]at hm hl
   rw [e1]
   have h1:=Es_ok (E_ok (T:=T) 5) args 0 hargs (by omega)
   rw [Nat.zero_add]at h1
   have h3:=it0 (T:=T) (h:=args.length) (x:=ins 22 kd ad (args.length:Int)) 22 rfl args.length 0 rfl (by omega) (by decide) hm λn=>⟨λq=>absurd q (show ¬((22:Int)=2\/(22:Int)=18) by decide),λq=>absurd q (show ¬((22:Int)=3\/(22:Int)=19) by decide),λ_=>?_,λq=>absurd q (show ¬((22:Int)=20\/(22:Int)=21) by decide)⟩
   ·rw [Nat.sub_self]at h3
    exact ok2 h1 (ok1 h3)
   ·rcases hb with ⟨a,b,_⟩|⟨a,b,_⟩|⟨a,b,_⟩
    ·exact .inl ⟨a,b⟩
    ·exact .inr (.inl ⟨a,b⟩)
    ·exact .inr (.inr ⟨a,b⟩)
end Go.Proofs.Ytjconanknjgpnaa.vars
set_option maxRecDepth 100000
set_option linter.unusedVariables false
set_option linter.unusedSimpArgs false
namespace Go.Proofs.Ytjconanknjgpnaa.vars
open Go Go.Sx
theorem genE5 {x:GX} (h:TX 5 x):(genE x).length<=31:=by have:=genE_len h;omega
theorem genEs5 {l:List GX} (h:∀x∈l,TX 5 x):(genEs l).length<=l.length*31:=genEs_len (d:=0) λx hx=>genE5 (h x hx)
theorem genTo5 {x:GX} (h:TX 5 x):(genTo x).length<=63:=by
 obtain ⟨op,kd,nm,fd,ad,n,vk,vi,vf,args⟩:=x
 have hal:args.length<=2:=by have:=h.1;unfold Ari at this;omega
 have h2:(genEs args).length<=args.length*31:=genEs5 λx hx=>TX_mono (by decide) (h.2.2.2.2.2 x hx)
 simp only [genTo]
 split
 ·simp only [List.length_append,List.length_cons,List.length_nil];omega
 ·simp
def szB:Nat->Nat
 |0=>0
 |d+1=>100+10*szB d
theorem genSs_len {M:Nat}:∀{l:List GS} (b:Nat),(∀s∈l,∀b,(genS b s).length<=M)->(genSs b l).length<=l.length*M
 |[],b,_=>by simp [genSs]
 |a::r,b,h=>by
  have h1:=h a (List.mem_cons_self ..) b
  have h2:=genSs_len (M:=M) (l:=r) (b+(genS b a).length) λx hx=>h x (List.mem_cons_of_mem _ hx)
  simp only [genSs,List.length_append,List.length_cons,Nat.add_mul,Nat.one_mul];omega
theorem genS_len:∀(d:Nat) (s:GS),TS d s->∀b,(genS b s).length<=szB d
 |0,_,h,_=>h.elim
 |d+1,.mk op to e thn els nm kd ad args,h,b=>by
  have ih:=genS_len d
  simp only [genS,szB]
  rcases h with ⟨rfl,a1,a2,a3,a4⟩|⟨ho,b1,b2,b3,b4,b5,b6⟩|⟨rfl,c1,c2⟩
  ·have h1:=genE5 a3
   have h2:=genTo5 a1
   simp only [if_pos,List.length_append];omega
  ·have h1:=genE5 b1
   have h2:∀b,(genSs b thn).length<=thn.length*szB d:=λb=>genSs_len b λs hs=>ih s (b5 s hs)
   have h3:∀b,(genSs b els).length<=els.length*szB d:=λb=>genSs_len b λs hs=>ih s (b6 s hs)
   have h4:thn.length*szB d<=5*szB d:=Nat.mul_le_mul_right _ b3
   have h5:els.length*szB d<=5*szB d:=Nat.mul_le_mul_right _ b4
   rcases ho with rfl|rfl
   ·rw [if_neg (by decide),if_pos rfl]
    have q1:=h2 (b+(genE e).length+1)
    have q2:=h3 (b+(genE e).length+1+(genSs (b+(genE e).length+1) thn).length+1)
    split
    ·simp only [List.length_append,List.length_cons,List.length_nil];omega
    ·simp only [List.length_append,List.length_cons,List.length_nil];omega
   ·rw [if_neg (by decide),if_neg (by decide),if_pos rfl]
    have q1:=h2 (b+(genE e).length+1)
    simp only [List.length_append,List.length_cons,List.length_nil];omega
  ·have hal:args.length<=2:=by
     rcases c1 with ⟨_,_,c1⟩|⟨_,_,c1⟩|⟨_,_,c1⟩<;>(have:=congrArg List.length c1;simp at this;omega)
   have h1:=genEs5 c2
   rw [if_neg (by decide),if_neg (by decide),if_neg (by decide)]
   simp only [List.length_append,List.length_cons,List.length_nil];omega
theorem genSs3 {l:List GS} (h5:l.length<=5) (h:∀s∈l,TS 3 s) (b:Nat):(genSs b l).length<=60000:=by
 have h1:(genSs b l).length<=l.length*szB 3:=genSs_len b λs hs=>genS_len 3 s (h s hs)
 have h2:l.length*szB 3<=5*szB 3:=Nat.mul_le_mul_right _ h5
 have h3:szB 3=11100:=rfl
 omega
def sh (n:Nat) (i:GI):GI:=if i.op=20\/i.op=21 then { i with ad:=i.ad+n } else i
theorem instE_op {op kd ad n vk vi:Int} {vf:Nat} {args:List GX} (h:1<=op/\op<=17):(instE op kd ad n vk vi vf args).op<=17:=by
 unfold instE
 split
 ·show (1:Int)<=17;decide
 split
 ·show (2:Int)<=17;decide
 split
 ·show (3:Int)<=17;decide
 split
 ·show (17:Int)<=17;decide
 ·exact h.2
theorem genE_op:∀(d:Nat) (x:GX),TX d x->∀i∈genE x,i.op<=17
 |0,_,h,_,_=>h.elim
 |d+1,.mk op kd nm fd ad n vk vi vf args,h,i,hi=>by
  have ih:=genE_op d
  have hw:1<=op/\op<=17:=by have:=h.1;unfold Ari at this;omega
  have hs:∀l:List GX,(∀x∈l,TX d x)->∀i∈genEs l,i.op<=17:=λl=>by
   induction l with
   |nil=>intro _ i hi;simp [genEs]at hi
   |cons a r ihr=>
    intro hl i hi
    simp only [genEs,List.mem_append]at hi
    rcases hi with hi|hi
    ·exact ih a (hl a (List.mem_cons_self ..)) i hi
    ·exact ihr (λx hx=>hl x (List.mem_cons_of_mem _ hx)) i hi
  simp only [genE,List.mem_append,List.mem_singleton]at hi
  rcases hi with hi|rfl
  ·exact hs args h.2.2.2.2.2 i hi
  ·exact instE_op hw
theorem genEs_op {l:List GX} {d:Nat} (hl:∀x∈l,TX d x):∀i∈genEs l,i.op<=17:=by
 induction l with
 |nil=>intro i hi;simp [genEs]at hi
 |cons a r ihr=>
  intro i hi
  simp only [genEs,List.mem_append]at hi
  rcases hi with hi|hi
  ·exact genE_op d a (hl a (List.mem_cons_self ..)) i hi
  ·exact ihr (λx hx=>hl x (List.mem_cons_of_mem _ hx)) i hi
theorem sh_id {n:Nat} {l:List GI} (h:∀i∈l,i.op<=19\/22<=i.op):l.map (sh n)=l:=by
 refine (List.map_congr_left λi hi=>?_).trans (List.map_id l)
 have:=h i hi
 unfold sh
 rw [if_neg (by omega)];rfl
theorem genTo_op {x:GX} (h:TX 5 x):∀i∈genTo x,i.op<=19:=by
 obtain ⟨op,kd,nm,fd,ad,n,vk,vi,vf,args⟩:=x
 intro i hi
 simp only [genTo]at hi
 split at hi
 ·rcases List.mem_append.1 hi with hi|hi
  ·have:=genEs_op h.2.2.2.2.2 i hi;omega
  ·cases List.mem_singleton.1 hi;show (19:Int)<=19;decide
 ·cases List.mem_singleton.1 hi;show (18:Int)<=19;decide
theorem sh_jump (n:Nat) (op b:Int) (h:op=20\/op=21):sh n (ins op 0 b 0)=ins op 0 (b+n) 0:=by
 unfold sh
 exact if_pos (show (ins op 0 b 0).op=20\/(ins op 0 b 0).op=21 from h)
theorem genS_set (b:Nat) (to e:GX) (thn els:List GS) (nm:List UInt8) (kd ad:Int) (args:List GX):genS b (.mk 1 to e thn els nm kd ad args)=genE e++genTo to:=by simp [genS]
theorem genS_if0 (b:Nat) (to e:GX) (thn:List GS) (nm:List UInt8) (kd ad:Int) (args:List GX):genS b (.mk 2 to e thn [] nm kd ad args)=genE e++[ins 21 0 ((b+(genE e).length+1+(genSs (b+(genE e).length+1) thn).length:Nat):Int) 0]++genSs (b+(genE e).length+1) thn:=by simp [genS]
theorem genS_if1 (b:Nat) (to e:GX) (thn els:List GS) (nm:List UInt8) (kd ad:Int) (args:List GX) (h:els≠[]):genS b (.mk 2 to e thn els nm kd ad args)=genE e++[ins 21 0 ((b+(genE e).length+1+(genSs (b+(genE e).length+1) thn).length+1:Nat):Int) 0]++genSs (b+(genE e).length+1) thn++[ins 20 0 ((b+(genE e).length+1+(genSs (b+(genE e).length+1) thn).length+1+(genSs (b+(genE e).length+1+(genSs (b+(genE e).length+1) thn).length+1) els).length:Nat):Int) 0]++genSs (b+(genE e).length+1+(genSs (b+(genE e).length+1) thn).length+1) els:=by simp [genS,h]
theorem genS_wh (b:Nat) (to e:GX) (thn els:List GS) (nm:List UInt8) (kd ad:Int) (args:List GX):genS b (.mk 3 to e thn els nm kd ad args)=genE e++[ins 21 0 ((b+(genE e).length+1+(genSs (b+(genE e).length+1) thn).length+1:Nat):Int) 0]++genSs (b+(genE e).length+1) thn++[ins 20 0 (b:Int) 0]:=by simp [genS]
theorem genS_call (b:Nat) (to e:GX) (thn els:List GS) (nm:List UInt8) (kd ad:Int) (args:List GX):genS b (.mk 4 to e thn els nm kd ad args)=genEs args++[ins 22 kd ad (args.length:Int)]:=by simp [genS]
theorem genSs_shift {n:Nat}:∀{l:List GS},(∀s∈l,∀b,genS (b+n) s=(genS b s).map (sh n))->∀b,genSs (b+n) l=(genSs b l).map (sh n)
 |[],_,b=>by simp [genSs]
 |a::r,h,b=>by
  have h1:=h a (List.mem_cons_self ..) b
  have h2:=genSs_shift (n:=n) (l:=r) (λx hx=>h x (List.mem_cons_of_mem _ hx)) (b+(genS b a).length)
  simp only [genSs,List.map_append]
  rw [h1,List.length_map,show b+n+(genS b a).length=b+(genS b a).length+n by omega,h2]
theorem genS_shift (n:Nat):∀(d:Nat) (s:GS),TS d s->∀b,genS (b+n) s=(genS b s).map (sh n)
 |0,_,h,_=>h.elim
 |d+1,.mk op to e thn els nm kd ad args,h,b=>by
  have ih:=genS_shift n d
  rcases h with ⟨rfl,a1,a2,a3,a4⟩|⟨ho,b1,b2,b3,b4,b5,b6⟩|⟨rfl,c1,c2⟩
  ·rw [genS_set,genS_set]
   refine (sh_id λi hi=>?_).symm
   rcases List.mem_append.1 hi with hi|hi
   ·have:=genE_op 5 e a3 i hi;omega
   ·exact .inl (genTo_op a1 i hi)
  ·have hE:(genE e).map (sh n)=genE e:=sh_id λi hi=>by have:=genE_op 5 e b1 i hi;omega
   have hT:∀b,genSs (b+n) thn=(genSs b thn).map (sh n):=genSs_shift λs hs=>ih s (b5 s hs)
   have hL:∀b,genSs (b+n) els=(genSs b els).map (sh n):=genSs_shift λs hs=>ih s (b6 s hs)
   have e1:b+n+(genE e).length+1=b+(genE e).length+1+n:=by omega
   rcases ho with rfl|rfl
   ·by_cases hels:els=[]
    ·subst hels
     rw [genS_if0,genS_if0,e1,hT,List.length_map]
     simp only [List.map_append,List.map_cons,List.map_nil,hE]
     rw [sh_jump n 21 _ (.inr rfl)]
     have x1:((b+(genE e).length+1+n+(genSs (b+(genE e).length+1) thn).length:Nat):Int)=((b+(genE e).length+1+(genSs (b+(genE e).length+1) thn).length:Nat):Int)+(n:Int):=by omega
     rw [x1]
    ·rw [genS_if1 _ _ _ _ _ _ _ _ _ hels,genS_if1 _ _ _ _ _ _ _ _ _ hels,e1,hT,List.length_map]
     have e2:b+(genE e).length+1+n+(genSs (b+(genE e).length+1) thn).length+1=b+(genE e).length+1+(genSs (b+(genE e).length+1) thn).length+1+n:=by omega
     rw [e2,hL,List.length_map]
     simp only [List.map_append,List.map_cons,List.map_nil,hE]
     rw [sh_jump n 21 _ (.inr rfl),sh_jump n 20 _ (.inl rfl)]
     have x1:((b+(genE e).length+1+(genSs (b+(genE e).length+1) thn).length+1+n:Nat):Int)=((b+(genE e).length+1+(genSs (b+(genE e).length+1) thn).length+1:Nat):Int)+(n:Int):=by omega
     have x2:((b+(genE e).length+1+(genSs (b+(genE e).length+1) thn).length+1+n+(genSs (b+(genE e).length+1+(genSs (b+(genE e).length+1) thn).length+1) els).length:Nat):Int)=((b+(genE e).length+1+(genSs (b+(genE e).length+1) thn).length+1+(genSs (b+(genE e).length+1+(genSs (b+(genE e).length+1) thn).length+1) els).length:Nat):Int)+(n:Int):=by omega
     rw [x1,x2]
   ·rw [genS_wh,genS_wh,e1,hT,List.length_map]
    simp only [List.map_append,List.map_cons,List.map_nil,hE]
    rw [sh_jump n 21 _ (.inr rfl),sh_jump n 20 _ (.inl rfl)]
    have x1:((b+(genE e).length+1+n+(genSs (b+(genE e).length+1) thn).length+1:Nat):Int)=((b+(genE e).length+1+(genSs (b+(genE e).length+1) thn).length+1:Nat):Int)+(n:Int):=by omega
    have x2:((b+n:Nat):Int)=(b:Int)+(n:Int):=by omega
    rw [x1,x2]
  ·rw [genS_call,genS_call]
   refine (sh_id λi hi=>?_).symm
   rcases List.mem_append.1 hi with hi|hi
   ·have:=genEs_op c2 i hi;omega
   ·cases List.mem_singleton.1 hi;exact .inr (by show (22:Int)<=22;decide)
def GOk (m:Nat) (i:GI):Prop:=Flt4 i.vf/\(i.op=20\/i.op=21->0<=i.ad/\i.ad<=m)
theorem GOk.mono {m k:Nat} {i:GI} (h:GOk m i) (hk:m<=k):GOk k i:=⟨h.1,λho=>by have:=h.2 ho;omega⟩
theorem genE_ok:∀(d:Nat) (x:GX),TX d x->∀i∈genE x,Flt4 i.vf
 |0,_,h,_,_=>h.elim
 |d+1,.mk op kd nm fd ad n vk vi vf args,h,i,hi=>by
  have ih:=genE_ok d
  have hs:∀l:List GX,(∀x∈l,TX d x)->∀i∈genEs l,Flt4 i.vf:=λl=>by
   induction l with
   |nil=>intro _ i hi;simp [genEs]at hi
   |cons a r ihr=>
    intro hl i hi
    simp only [genEs,List.mem_append]at hi
    rcases hi with hi|hi
    ·exact ih a (hl a (List.mem_cons_self ..)) i hi
    ·exact ihr (λx hx=>hl x (List.mem_cons_of_mem _ hx)) i hi
  simp only [genE,List.mem_append,List.mem_singleton]at hi
  rcases hi with hi|rfl
  ·exact hs args h.2.2.2.2.2 i hi
  ·unfold instE
   split
   ·exact h.2.1
   repeat' (first|(split;exact .inl rfl)|exact .inl rfl)
theorem genEs_ok {l:List GX} {d:Nat} (hl:∀x∈l,TX d x):∀i∈genEs l,Flt4 i.vf:=by
 induction l with
 |nil=>intro i hi;simp [genEs]at hi
 |cons a r ihr=>
  intro i hi
  simp only [genEs,List.mem_append]at hi
  rcases hi with hi|hi
  ·exact genE_ok d a (hl a (List.mem_cons_self ..)) i hi
  ·exact ihr (λx hx=>hl x (List.mem_cons_of_mem _ hx)) i hi
theorem ins_ok {m:Nat} {op kd ad n:Int} (h:op=20\/op=21->0<=ad/\ad<=m):GOk m (ins op kd ad n):=⟨.inl rfl,h⟩
theorem genE_gok {m:Nat} {x:GX} (h:TX 5 x):∀i∈genE x,GOk m i:=λi hi=>⟨genE_ok 5 x h i hi,λho=>by have:=genE_op 5 x h i hi;omega⟩
theorem genTo_gok {m:Nat} {x:GX} (h:TX 5 x):∀i∈genTo x,GOk m i:=by
 intro i hi
 refine ⟨?_,λho=>by have:=genTo_op h i hi;omega⟩
 obtain ⟨op,kd,nm,fd,ad,n,vk,vi,vf,args⟩:=x
 simp only [genTo]at hi
 split at hi
 ·rcases List.mem_append.1 hi with hi|hi
  ·exact genEs_ok h.2.2.2.2.2 i hi
  ·cases List.mem_singleton.1 hi;exact .inl rfl
 ·cases List.mem_singleton.1 hi;exact .inl rfl
theorem genSs_gok:∀{l:List GS},(∀s∈l,∀b,∀i∈genS b s,GOk (b+(genS b s).length) i)->∀b,∀i∈genSs b l,GOk (b+(genSs b l).length) i
 |[],_,b,i,hi=>by simp [genSs]at hi
 |a::r,h,b,i,hi=>by
  have h1:=h a (List.mem_cons_self ..) b
  have h2:=genSs_gok (l:=r) (λx hx=>h x (List.mem_cons_of_mem _ hx)) (b+(genS b a).length)
  simp only [genSs,List.length_append,List.mem_append]at hi⊢
  rcases hi with hi|hi
  ·exact (h1 i hi).mono (by omega)
  ·exact (h2 i hi).mono (by omega)
theorem genS_gok:∀(d:Nat) (s:GS),TS d s->∀b,∀i∈genS b s,GOk (b+(genS b s).length) i
 |0,_,h,_,_,_=>h.elim
 |d+1,.mk op to e thn els nm kd ad args,h,b,i,hi=>by
  have ih:=genS_gok d
  rcases h with ⟨rfl,a1,a2,a3,a4⟩|⟨ho,b1,b2,b3,b4,b5,b6⟩|⟨rfl,c1,c2⟩
  ·rw [genS_set]at hi⊢
   rcases List.mem_append.1 hi with hi|hi
   ·exact genE_gok a3 i hi
   ·exact genTo_gok a1 i hi
  ·have hT:∀b,∀i∈genSs b thn,GOk (b+(genSs b thn).length) i:=genSs_gok λs hs=>ih s (b5 s hs)
   have hL:∀b,∀i∈genSs b els,GOk (b+(genSs b els).length) i:=genSs_gok λs hs=>ih s (b6 s hs)
   rcases ho with rfl|rfl
   ·by_cases hels:els=[]
    ·subst hels
     rw [genS_if0]at hi⊢
     simp only [List.mem_append,List.mem_singleton,List.length_append,List.length_cons,List.length_nil]at hi⊢
     rcases hi with (hi|rfl)|hi
     ·exact genE_gok b1 i hi
     ·exact ins_ok λ_=>by omega
     ·exact (hT _ i hi).mono (by omega)
    ·rw [genS_if1 _ _ _ _ _ _ _ _ _ hels]at hi⊢
     simp only [List.mem_append,List.mem_singleton,List.length_append,List.length_cons,List.length_nil]at hi⊢
     rcases hi with (((hi|rfl)|hi)|rfl)|hi
     ·exact genE_gok b1 i hi
     ·exact ins_ok λ_=>by omega
     ·exact (hT _ i hi).mono (by omega)
     ·exact ins_ok λ_=>by omega
     ·exact (hL _ i hi).mono (by omega)
   ·rw [genS_wh]at hi⊢
    simp only [List.mem_append,List.mem_singleton,List.length_append,List.length_cons,List.length_nil]at hi⊢
    rcases hi with ((hi|rfl)|hi)|rfl
    ·exact genE_gok b1 i hi
    ·exact ins_ok λ_=>by omega
    ·exact (hT _ i hi).mono (by omega)
    ·exact ins_ok λ_=>by omega
  ·rw [genS_call]at hi⊢
   rcases List.mem_append.1 hi with hi|hi
   ·exact ⟨genEs_ok c2 i hi,λho=>by have:=genEs_op c2 i hi;omega⟩
   ·cases List.mem_singleton.1 hi;exact ins_ok λho=>by omega
theorem genP_gok {x:List GS} {d:Nat} (hx:∀s∈x,TS d s):∀i∈genP x,GOk (genP x).length i:=by
 intro i hi
 simp only [genP,List.mem_append,List.mem_singleton,List.length_append,List.length_cons,List.length_nil]at hi⊢
 rcases hi with hi|rfl
 ·exact (genSs_gok (λs hs=>genS_gok d s (hx s hs)) 0 i hi).mono (by omega)
 ·exact ins_ok λho=>by omega
theorem genP_parts {a b:List GS} {d:Nat} (hb:∀s∈b,TS d s):genP (a++b)=genSs 0 a++(genP b).map (sh (genSs 0 a).length):=by
 have h:=genSs_shift (n:=(genSs 0 a).length) (l:=b) (λs hs=>genS_shift _ d s (hb s hs)) 0
 rw [Nat.zero_add]at h
 simp only [genP,genSs_app,Nat.zero_add,h,List.map_append,List.map_cons,List.map_nil,List.append_assoc]
 congr 3
end Go.Proofs.Ytjconanknjgpnaa.vars
set_option maxRecDepth 100000
namespace Go.Proofs.Ytjconanknjgpnaa.vars
open Go Go.Sx
namespace Beg
abbrev G (l:List (FuncId×List AV×AV)):Gl:=glT gl0 nr0 l
theorem o0: @OvOk (G []) Try.prog:=ov_nil gl0 nr0 Try.prog
def z8:AV:=.int .i64 1
def z13:AV:=.int .i64 2
def z9:AV:=.int .i64 0
def z10:AV:=.flt .f64 0
def z11:AV:=.int .i64 3
def z12:AV:=.int .i64 5
def z0:AV:=.vsl 7 10 [.str [97],z8,z13,z9,z13,z9,z10,z9,z9,z10,.str [98],z8,z8,z9,z8,z9,z10,z9,z9,z10,.str [111],z13,z13,z9,z13,z8,z10,z13,.int .i64 9,z10,.str [110],z11,z13,z9,z13,z9,z10,z9,z9,z10,.str [120],z11,z13,z9,z13,z9,z10,z9,z9,z10,.str [114],z11,z12,z9,z12,z9,z10,z9,z9,z10,.str [107],z11,z13,z11,z13,z9,z10,z9,z9,z10]
def z7:AV:=.str []
def z14:AV:=.int .i64 4
def z6:AV:=.vsl 2 10 [z13,z13,.str [110],z7,z11,z9,z9,z9,z10,.nsl,z8,z13,z7,z7,z9,z9,z13,z8,z10,.nsl]
def z4:AV:=.vsl 1 27 [z8,z11,z13,.str [107],z7,.int .i64 6,z11,z9,z9,z10,.vsl 1 10 [z13,z13,.str [120],z7,z14,z9,z9,z9,z10,.nsl],z13,z13,.str [97],z7,z9,z9,z9,z9,z10,.nsl,.nsl,.nsl,z7,z9,z9,.nsl]
def z1:AV:=.vsl 4 27 [z8,z13,z13,.str [110],z7,z11,z9,z9,z9,z10,.nsl,z14,z13,z7,z7,z9,z9,z9,z9,z10,z6,.nsl,.nsl,z7,z9,z9,.nsl,z8,z13,z13,.str [111],z7,z13,z9,z9,z9,z10,.nsl,z14,z13,z7,z7,z9,z9,z9,z9,z10,.vsl 2 10 [z13,z13,.str [120],z7,z14,z9,z9,z9,z10,.nsl,z13,z13,.str [97],z7,z9,z9,z9,z9,z10,.nsl],.nsl,.nsl,z7,z9,z9,.nsl,z13,z9,z9,z7,z7,z9,z9,z9,z9,z10,.nsl,z13,z8,.str [98],z7,z8,z9,z9,z9,z10,.nsl,z4,.nsl,z7,z9,z9,.nsl,z8,z13,z12,.str [114],z7,z12,z9,z9,z9,z10,.nsl,z14,z12,z7,z7,z9,z9,z9,z9,z10,.vsl 2 10 [z13,z12,.str [114],z7,z12,z9,z9,z9,z10,.nsl,z8,z12,z7,z7,z9,z9,z12,z9,.flt .f64 4602678819172646912,.nsl],.nsl,.nsl,z7,z9,z9,.nsl]
def z5:AV:=.vsl 1 27 [z8,z11,z9,.str [107],z7,z9,z9,z9,z9,z10,.vsl 1 10 [z13,z9,.str [120],z7,z9,z9,z9,z9,z10,.nsl],z13,z9,.str [97],z7,z9,z9,z9,z9,z10,.nsl,.nsl,.nsl,z7,z9,z9,.nsl]
def z2:AV:=.vsl 4 27 [z8,z13,z9,.str [110],z7,z9,z9,z9,z9,z10,.nsl,z14,z9,z7,z7,z9,z9,z9,z9,z10,.vsl 2 10 [z13,z9,.str [110],z7,z9,z9,z9,z9,z10,.nsl,z8,z9,z7,z7,z9,z9,z11,z8,z10,.nsl],.nsl,.nsl,z7,z9,z9,.nsl,z8,z13,z9,.str [111],z7,z9,z9,z9,z9,z10,.nsl,z14,z9,z7,z7,z9,z9,z9,z9,z10,.vsl 2 10 [z13,z9,.str [120],z7,z9,z9,z9,z9,z10,.nsl,z13,z9,.str [97],z7,z9,z9,z9,z9,z10,.nsl],.nsl,.nsl,z7,z9,z9,.nsl,z13,z9,z9,z7,z7,z9,z9,z9,z9,z10,.nsl,z13,z9,.str [98],z7,z9,z9,z9,z9,z10,.nsl,z5,.nsl,z7,z9,z9,.nsl,z8,z13,z9,.str [114],z7,z9,z9,z9,z9,z10,.nsl,z14,z9,z7,z7,z9,z9,z9,z9,z10,.vsl 2 10 [z13,z9,.str [114],z7,z9,z9,z9,z9,z10,.nsl,z8,z9,z7,z7,z9,z9,z12,z9,.flt .f64 4602678819172646912,.nsl],.nsl,.nsl,z7,z9,z9,.nsl]
def z3:AV:=.str [105,110,32,97,32,58,32,105,110,116,59,32,105,110,32,98,32,58,32,98,111,111,108,59,32,111,117,116,32,111,32,58,32,105,110,116,32,58,61,32,49,44,32,57,59,32,118,97,114,32,110,32,58,32,105,110,116,59,32,118,97,114,32,120,32,58,32,105,110,116,59,32,118,97,114,32,114,32,58,32,114,101,97,108,59,32,118,97,114,32,107,32,58,32,105,110,116,91,51,93,59,32,110,32,58,61,32,110,32,43,32,49,59,32,111,32,58,61,32,120,32,43,32,97,59,32,105,102,32,98,32,116,104,101,110,32,107,91,120,93,32,58,61,32,97,59,32,101,110,100,32,114,32,58,61,32,114,32,43,32,48,46,53,59]
def a0:List AV:=[z3]
def v0:AV:=.tup [.vsl 71 5 [z8,.str [105,110],z9,z10,z9,z8,.str [97],z9,z10,z11,z12,.str [58],z9,z10,z12,z8,.str [105,110,116],z9,z10,.int .i64 7,z12,.str [59],z9,z10,.int .i64 10,z8,.str [105,110],z9,z10,.int .i64 12,z8,.str [98],z9,z10,.int .i64 15,z12,.str [58],z9,z10,.int .i64 17,z8,.str [98,111,111,108],z9,z10,.int .i64 19,z12,.str [59],z9,z10,.int .i64 23,z8,.str [111,117,116],z9,z10,.int .i64 25,z8,.str [111],z9,z10,.int .i64 29,z12,.str [58],z9,z10,.int .i64 31,z8,.str [105,110,116],z9,z10,.int .i64 33,z12,.str [58,61],z9,z10,.int .i64 37,z13,z7,z8,z10,.int .i64 40,z12,.str [44],z9,z10,.int .i64 41,z13,z7,.int .i64 9,z10,.int .i64 43,z12,.str [59],z9,z10,.int .i64 44,z8,.str [118,97,114],z9,z10,.int .i64 46,z8,.str [110],z9,z10,.int .i64 50,z12,.str [58],z9,z10,.int .i64 52,z8,.str [105,110,116],z9,z10,.int .i64 54,z12,.str [59],z9,z10,.int .i64 57,z8,.str [118,97,114],z9,z10,.int .i64 59,z8,.str [120],z9,z10,.int .i64 63,z12,.str [58],z9,z10,.int .i64 65,z8,.str [105,110,116],z9,z10,.int .i64 67,z12,.str [59],z9,z10,.int .i64 70,z8,.str [118,97,114],z9,z10,.int .i64 72,z8,.str [114],z9,z10,.int .i64 76,z12,.str [58],z9,z10,.int .i64 78,z8,.str [114,101,97,108],z9,z10,.int .i64 80,z12,.str [59],z9,z10,.int .i64 84,z8,.str [118,97,114],z9,z10,.int .i64 86,z8,.str [107],z9,z10,.int .i64 90,z12,.str [58],z9,z10,.int .i64 92,z8,.str [105,110,116],z9,z10,.int .i64 94,z12,.str [91],z9,z10,.int .i64 97,z13,z7,z11,z10,.int .i64 98,z12,.str [93],z9,z10,.int .i64 99,z12,.str [59],z9,z10,.int .i64 100,z8,.str [110],z9,z10,.int .i64 102,z12,.str [58,61],z9,z10,.int .i64 104,z8,.str [110],z9,z10,.int .i64 107,z12,.str [43],z9,z10,.int .i64 109,z13,z7,z8,z10,.int .i64 111,z12,.str [59],z9,z10,.int .i64 112,z8,.str [111],z9,z10,.int .i64 114,z12,.str [58,61],z9,z10,.int .i64 116,z8,.str [120],z9,z10,.int .i64 119,z12,.str [43],z9,z10,.int .i64 121,z8,.str [97],z9,z10,.int .i64 123,z12,.str [59],z9,z10,.int .i64 124,z8,.str [105,102],z9,z10,.int .i64 126,z8,.str [98],z9,z10,.int .i64 129,z8,.str [116,104,101,110],z9,z10,.int .i64 131,z8,.str [107],z9,z10,.int .i64 136,z12,.str [91],z9,z10,.int .i64 137,z8,.str [120],z9,z10,.int .i64 138,z12,.str [93],z9,z10,.int .i64 139,z12,.str [58,61],z9,z10,.int .i64 141,z8,.str [97],z9,z10,.int .i64 144,z12,.str [59],z9,z10,.int .i64 145,z8,.str [101,110,100],z9,z10,.int .i64 147,z8,.str [114],z9,z10,.int .i64 151,z12,.str [58,61],z9,z10,.int .i64 153,z8,.str [114],z9,z10,.int .i64 156,z12,.str [43],z9,z10,.int .i64 158,z11,z7,z9,.flt .f64 4602678819172646912,.int .i64 160,z12,.str [59],z9,z10,.int .i64 163],z9,.bool true]
theorem e0: @memo (G []) Try.prog 3000 29 a0 v0=true:=by kernel_rfl
def l1:List (FuncId×List AV×AV):=(29,a0,v0)::[]
theorem o1: @OvOk (G l1) Try.prog:=ov_cons o0 (@memo_ok (G []) Try.prog mo o0 3000 29 a0 v0 e0)
def a1:List AV:=[z3]
def v1:AV:=.tup [.agg [z0,z2],z9,.bool true]
theorem e1: @memo (G l1) Try.prog 3000 15 a1 v1=true:=by kernel_rfl
def l2:List (FuncId×List AV×AV):=(15,a1,v1)::l1
theorem o2: @OvOk (G l2) Try.prog:=ov_cons o1 (@memo_ok (G l1) Try.prog mo o1 3000 15 a1 v1 e1)
def a2:List AV:=[z0,.agg [z8,z13,z9,.str [110],z7,z9,z9,z9,z9,z10,.nsl,z14,z9,z7,z7,z9,z9,z9,z9,z10,.vsl 2 10 [z13,z9,.str [110],z7,z9,z9,z9,z9,z10,.nsl,z8,z9,z7,z7,z9,z9,z11,z8,z10,.nsl],.nsl,.nsl,z7,z9,z9,.nsl]]
def v2:AV:=.tup [.agg [z8,z13,z13,.str [110],z7,z11,z9,z9,z9,z10,.nsl,z14,z13,z7,z7,z9,z9,z9,z9,z10,z6,.nsl,.nsl,z7,z9,z9,.nsl],z9]
theorem e2: @memo (G l2) Try.prog 3000 63 a2 v2=true:=by kernel_rfl
def l3:List (FuncId×List AV×AV):=(63,a2,v2)::l2
theorem o3: @OvOk (G l3) Try.prog:=ov_cons o2 (@memo_ok (G l2) Try.prog mo o2 3000 63 a2 v2 e2)
def a3:List AV:=[z0,.agg [z8,z13,z9,.str [111],z7,z9,z9,z9,z9,z10,.nsl,z14,z9,z7,z7,z9,z9,z9,z9,z10,.vsl 2 10 [z13,z9,.str [120],z7,z9,z9,z9,z9,z10,.nsl,z13,z9,.str [97],z7,z9,z9,z9,z9,z10,.nsl],.nsl,.nsl,z7,z9,z9,.nsl]]
def v3:AV:=.tup [.agg [z8,z13,z13,.str [111],z7,z13,z9,z9,z9,z10,.nsl,z14,z13,z7,z7,z9,z9,z9,z9,z10,.vsl 2 10 [z13,z13,.str [120],z7,z14,z9,z9,z9,z10,.nsl,z13,z13,.str [97],z7,z9,z9,z9,z9,z10,.nsl],.nsl,.nsl,z7,z9,z9,.nsl],z9]
theorem e3: @memo (G l3) Try.prog 3000 63 a3 v3=true:=by kernel_rfl
def l4:List (FuncId×List AV×AV):=(63,a3,v3)::l3
theorem o4: @OvOk (G l4) Try.prog:=ov_cons o3 (@memo_ok (G l3) Try.prog mo o3 3000 63 a3 v3 e3)
def a4:List AV:=[z0,.agg [z8,z11,z9,.str [107],z7,z9,z9,z9,z9,z10,.vsl 1 10 [z13,z9,.str [120],z7,z9,z9,z9,z9,z10,.nsl],z13,z9,.str [97],z7,z9,z9,z9,z9,z10,.nsl,.nsl,.nsl,z7,z9,z9,.nsl]]
def v4:AV:=.tup [.agg [z8,z11,z13,.str [107],z7,.int .i64 6,z11,z9,z9,z10,.vsl 1 10 [z13,z13,.str [120],z7,z14,z9,z9,z9,z10,.nsl],z13,z13,.str [97],z7,z9,z9,z9,z9,z10,.nsl,.nsl,.nsl,z7,z9,z9,.nsl],z9]
theorem e4: @memo (G l4) Try.prog 3000 63 a4 v4=true:=by kernel_rfl
def l5:List (FuncId×List AV×AV):=(63,a4,v4)::l4
theorem o5: @OvOk (G l5) Try.prog:=ov_cons o4 (@memo_ok (G l4) Try.prog mo o4 3000 63 a4 v4 e4)
def a5:List AV:=[z0,z5]
def v5:AV:=.tup [z4,z9]
theorem e5: @memo (G l5) Try.prog 3000 36 a5 v5=true:=by kernel_rfl
def l6:List (FuncId×List AV×AV):=(36,a5,v5)::l5
theorem o6: @OvOk (G l6) Try.prog:=ov_cons o5 (@memo_ok (G l5) Try.prog mo o5 3000 36 a5 v5 e5)
def a6:List AV:=[z0,.nsl]
def v6:AV:=.tup [.nsl,z9]
theorem e6: @memo (G l6) Try.prog 3000 36 a6 v6=true:=by kernel_rfl
def l7:List (FuncId×List AV×AV):=(36,a6,v6)::l6
theorem o7: @OvOk (G l7) Try.prog:=ov_cons o6 (@memo_ok (G l6) Try.prog mo o6 3000 36 a6 v6 e6)
def a7:List AV:=[z0,.agg [z13,z9,z9,z7,z7,z9,z9,z9,z9,z10,.nsl,z13,z9,.str [98],z7,z9,z9,z9,z9,z10,.nsl,z5,.nsl,z7,z9,z9,.nsl]]
def v7:AV:=.tup [.agg [z13,z9,z9,z7,z7,z9,z9,z9,z9,z10,.nsl,z13,z8,.str [98],z7,z8,z9,z9,z9,z10,.nsl,z4,.nsl,z7,z9,z9,.nsl],z9]
theorem e7: @memo (G l7) Try.prog 3000 63 a7 v7=true:=by kernel_rfl
def l8:List (FuncId×List AV×AV):=(63,a7,v7)::l7
theorem o8: @OvOk (G l8) Try.prog:=ov_cons o7 (@memo_ok (G l7) Try.prog mo o7 3000 63 a7 v7 e7)
def a8:List AV:=[z0,.agg [z8,z13,z9,.str [114],z7,z9,z9,z9,z9,z10,.nsl,z14,z9,z7,z7,z9,z9,z9,z9,z10,.vsl 2 10 [z13,z9,.str [114],z7,z9,z9,z9,z9,z10,.nsl,z8,z9,z7,z7,z9,z9,z12,z9,.flt .f64 4602678819172646912,.nsl],.nsl,.nsl,z7,z9,z9,.nsl]]
def v8:AV:=.tup [.agg [z8,z13,z12,.str [114],z7,z12,z9,z9,z9,z10,.nsl,z14,z12,z7,z7,z9,z9,z9,z9,z10,.vsl 2 10 [z13,z12,.str [114],z7,z12,z9,z9,z9,z10,.nsl,z8,z12,z7,z7,z9,z9,z12,z9,.flt .f64 4602678819172646912,.nsl],.nsl,.nsl,z7,z9,z9,.nsl],z9]
theorem e8: @memo (G l8) Try.prog 3000 63 a8 v8=true:=by kernel_rfl
def l9:List (FuncId×List AV×AV):=(63,a8,v8)::l8
theorem o9: @OvOk (G l9) Try.prog:=ov_cons o8 (@memo_ok (G l8) Try.prog mo o8 3000 63 a8 v8 e8)
def a9:List AV:=[z0,z2]
def v9:AV:=.tup [z1,z9]
theorem e9: @memo (G l9) Try.prog 3000 36 a9 v9=true:=by kernel_rfl
def l10:List (FuncId×List AV×AV):=(36,a9,v9)::l9
theorem o10: @OvOk (G l10) Try.prog:=ov_cons o9 (@memo_ok (G l9) Try.prog mo o9 3000 36 a9 v9 e9)
def a10:List AV:=[.agg [z0,z2]]
def v10:AV:=.tup [.agg [z0,z1],z9]
theorem e10: @memo (G l10) Try.prog 3000 17 a10 v10=true:=by kernel_rfl
def l11:List (FuncId×List AV×AV):=(17,a10,v10)::l10
theorem o11: @OvOk (G l11) Try.prog:=ov_cons o10 (@memo_ok (G l10) Try.prog mo o10 3000 17 a10 v10 e10)
def a11:List AV:=[.agg [z0,z1]]
def v11:AV:=.tup [.vsl 18 7 [z13,z9,z11,z9,z9,z9,z10,z8,z13,z9,z9,z13,z8,z10,z14,z13,z9,z9,z9,z9,z10,.int .i64 18,z9,z11,z9,z9,z9,z10,z13,z9,z14,z9,z9,z9,z10,z13,z9,z9,z9,z9,z9,z10,z14,z13,z9,z9,z9,z9,z10,.int .i64 18,z9,z13,z9,z9,z9,z10,z13,z9,z8,z9,z9,z9,z10,.int .i64 21,z9,.int .i64 13,z9,z9,z9,z10,z13,z9,z9,z9,z9,z9,z10,z13,z9,z14,z9,z9,z9,z10,.int .i64 19,z9,.int .i64 6,z11,z9,z9,z10,z13,z9,z12,z9,z9,z9,z10,z8,z12,z9,z9,z12,z9,.flt .f64 4602678819172646912,z14,z12,z9,z9,z9,z9,z10,.int .i64 18,z9,z12,z9,z9,z9,z10,.int .i64 23,z9,z9,z9,z9,z9,z10],z9]
theorem e11: @memo (G l11) Try.prog 3000 8 a11 v11=true:=by kernel_rfl
def l12:List (FuncId×List AV×AV):=(8,a11,v11)::l11
theorem o12: @OvOk (G l12) Try.prog:=ov_cons o11 (@memo_ok (G l11) Try.prog mo o11 3000 8 a11 v11 e11)
def a12:List AV:=[.agg [z14,z13,z7,z7,z9,z9,z9,z9,z10,z6]]
def v12:AV:=.vsl 3 7 [z13,z9,z11,z9,z9,z9,z10,z8,z13,z9,z9,z13,z8,z10,z14,z13,z9,z9,z9,z9,z10]
theorem e12: @memo (G l12) Try.prog 3000 11 a12 v12=true:=by kernel_rfl
def l13:List (FuncId×List AV×AV):=(11,a12,v12)::l12
theorem o13: @OvOk (G l13) Try.prog:=ov_cons o12 (@memo_ok (G l12) Try.prog mo o12 3000 11 a12 v12 e12)
theorem eb: @memo (G l13) Try.prog 3000 6 [] (.bool true)=true:=by kernel_rfl
end Beg
theorem k6:Pure Try.prog 6 [] (.bool true):= @memo_ok (Beg.G Beg.l13) Try.prog mo Beg.o13 3000 6 [] (.bool true) Beg.eb
theorem k47_0:Pure Try.prog 47 [.flt .f64 0,.flt .f64 0] (.bool true):=memo_ok mo ov (n:=3000) (by kernel_rfl)
theorem k47_1:Pure Try.prog 47 [.flt .f64 4609434218613702656,.flt .f64 4609434218613702656] (.bool true):=memo_ok mo ov (n:=3000) (by kernel_rfl)
theorem k47_2:Pure Try.prog 47 [.flt .f64 4611686018427387904,.flt .f64 4611686018427387904] (.bool true):=memo_ok mo ov (n:=3000) (by kernel_rfl)
theorem k47_3:Pure Try.prog 47 [.flt .f64 4598175219545276416,.flt .f64 4598175219545276416] (.bool true):=memo_ok mo ov (n:=3000) (by kernel_rfl)
end Go.Proofs.Ytjconanknjgpnaa.vars
