/-
  The controller's runs, part 7.
-/
import Derived.Test.YtaamplmpnmegdaaGreatDoorFA
import Derived.Test.YtaamplmpnmegdaaGreatDoorK0e
import Derived.Test.YtaamplmpnmegdaaGreatDoorSyQ
import Derived.Test.YtaamplmpnmegdaaGreatDoorSyE
import Derived.KernelRfl
set_option maxRecDepth 100000
namespace Go.Proofs.YtaamplmpnmegdaaGreatDoor.vars
open Go Go.Sx
theorem eI:vFn Tryz.prog 300 cD 9 [d_ 0,i_ (.sym 74)] 75=tI:=by kernel_rfl
end Go.Proofs.YtaamplmpnmegdaaGreatDoor.vars
set_option maxRecDepth 100000
set_option linter.unusedVariables false
set_option linter.unusedSimpArgs false
namespace Go.Proofs.YtaamplmpnmegdaaGreatDoor.vars
open Go Go.Sx
theorem j_ {i:Int} (h1: -32768<=i) (h2:i<=32767):IntKind.i16.wrap i=i:=by simp [IntKind.wrap,IntKind.bits,IntKind.signed];omega
theorem dI (v:Int) (h0:0<=v) (h1:v<=255) (i a o n N mo mn:Int) (r mr:Option Nat) (s:Int):hR_ Tryz.prog 9 [.agg (TL 0 (jI i) (jI a) (jI o) (jI n) (fv r) (jI N) (jI mo) (jI mn) (fv mr) (jI s)),i_ (jI v)] (.tup [.agg (TL 0 (jI v) (jI a) (jI o) (jI n) (fv r) (jI N) (jI mo) (jI mn) (fv mr) (jI s)),D0]):=by
 have hw:u_ v=v:=by unfold u_;rw [j_ (by omega) (by omega),vh_ (by omega) (by omega)]
 refine pure_pat (args':=[d_ 0,i_ (.sym 74)]) (ls:=[jI i,jI a,jI o,jI n,fv r,jI N,jI mo,jI mn,fv mr,jI s,jI v]) (c:=cD) (n:=300) mox ov (by cases r<;>cases mr<;>rfl) rfl (by cases r<;>cases mr<;>rfl) (by cases r<;>cases mr<;>rfl) (λY _=>rfl) (λY _=>u8_ _) rfl eI λY hf hg=>?_;unfold tI;refine u1_ (tn_ Tryz.underlying2 Tryz.underlying259 _) rfl (u1_ (tn_ Tryz.underlying259 Tryz.underlying2 _) rfl (u1_ (run_eql ..) rfl (u1_ (uW_ ..) rfl (uP_ rfl (λh=>?_) (λh=>ui_ rfl)))));have h:(!decide (v=u_ v))=true:=h;rw [hw]at h;simp at h
end Go.Proofs.YtaamplmpnmegdaaGreatDoor.vars
set_option maxRecDepth 100000
set_option linter.unusedVariables false
set_option linter.unusedSimpArgs false
namespace Go.Proofs.YtaamplmpnmegdaaGreatDoor.vars
open Go Go.Sx
def c10:VC:=⟨⟨[],[]⟩,[],[],0,true,[]⟩
def t10:VT:=
 (.ite 75
 (.done (.bool true))
 (K Q0 [77,J 0] 83
 (.done (83))))
def c8:VC:=⟨⟨[],[]⟩,[(10,[none]),(9,[(some 19),(some 2)])],[(0,[⟨[(2,.ptr 1 0),(1,.ptr 0 0),(3,.slx 0 0 0)],[(1,[.nsl,.nsl,.nsl,.nsl,J 0,.nsl,J 0,.nsl,.nsl,J 0,J 0,.bool false,J 0,J 0,J 0,J 0,.nsl,.nsl,.nsl]),(0,[.slx 1 0 0,.slx 2 0 0,.slx 3 0 0,.slx 4 0 0,.slx 5 0 0,.slx 6 0 0,.slx 7 0 0,.slx 8 0 0,.slx 9 0 0,.slx 10 0 0,.slx 11 0 0,.slx 12 0 0,.slx 13 0 0,.slx 14 0 0,.slx 15 0 0,.slx 16 0 0,.slx 17 0 0,.slx 18 0 0,.slx 19 0 0])],2,20,[],[],[]⟩])],0,true,[]⟩
def t8:VT:=
 (.loop 83 0 [J 0,64,65,66,67,68,69,70,71,72,73,74,75,76,77,78,79,80,81,82]
 (.cons 20
 (K (.bin .lss 3 false true) [83,J 200] 103
 (.ite 103
 (.call 10 [.agg [84,85,86,87,88,89,90,91,92,93,94,95,96,97,98,99,100,101,102]] 104 [none]
 (.call 9 [.agg [84,85,86,87,88,89,90,91,92,93,94,95,96,97,98,99,100,101,102],stepM] 105 [(some 19),(some 2)]
 (.ite 104
 (.done (.agg [105,106,107,108,109,110,111,112,113,114,115,116,117,118,119,120,121,122,123]))
 (K Q1 [83,J 1] 126
 (.again 0 0 [126,105,106,107,108,109,110,111,112,113,114,115,116,117,118,119,120,121,122,123])))))
 (.done (.agg [84,85,86,87,88,89,90,91,92,93,94,95,96,97,98,99,100,101,102]))))
 .nil))
theorem n_ {n:Nat} (h:n<9223372036854775807):IntKind.i64.wrap ((n:Int)+1)=((n+1:Nat):Int):=by rw [vh_ (by omega) (by omega)];rfl
theorem am_ {s:AV} (hs:okC s=true) (p:Nat):okC (t_ s p)=true:=by unfold t_;split<;>simp [okC,okL,iV,rV,hs]
theorem f_ {a o n r:AV} (h1:okC a=true) (h2:okC o=true) (h3:okC n=true) (h4:okC r=true):okL (e_ a o n r)=true:=by simp [e_,okL,okC,h1,h2,h3,h4]
theorem aS_ (x:SS):okC x.top=true:=by unfold SS.top;split<;>first|exact vl_ _|rfl
theorem G_:okC VARS2=true:=by kernel_rfl
theorem C_:okC BODY2=true:=by kernel_rfl
theorem D_:okC CODE2=true:=by kernel_rfl
theorem E_:okC SESS0=true:=by kernel_rfl
theorem c_ (x:SS):okL (enc x)=true:=by have h1:=f_ (a:=jI x.a) (o:=jI x.o) (n:=jI x.n) rfl rfl rfl (vl_ x.r);have h2:=f_ (a:=jI x.a) (o:=jI x.mo) (n:=jI x.mn) rfl rfl rfl (vl_ x.mr);have h3:=f_ (a:=jI x.i) (o:=.int .i64 1) (n:=.int .i64 0) (r:=.flt .f64 0) rfl rfl rfl rfl;have h4:=am_ (aS_ x) x.p;show okL [VARS2,BODY2,VARS2,CODE2,.int .i64 100,.vsl 9 3 (e_ (jI x.a) (jI x.o) (jI x.n) (fv x.r)),.int .i64 (bW_ x.p),t_ x.top x.p,.vsl 9 3 (e_ (jI x.a) (jI x.mo) (jI x.mn) (fv x.mr)),.int .i64 (x.p:Int),.int .i64 0,.bool (Nat.beq x.p 15),.int .i64 0,.int .i64 0,jI x.N,.int .i64 0,SESS0,.nsl,.vsl 9 3 (e_ (jI x.i) (.int .i64 1) (.int .i64 0) (.flt .f64 0))]=true;simp only [okL,G_,C_,D_,E_,okC,h1,h2,h3,h4]
theorem sO_ {x y:SS} (h:enc x=enc y):x.p=y.p:=by
 have h1:(enc x)[9]? =some (.int .i64 (x.p:Int)):=rfl;have h2:(enc y)[9]? =some (.int .i64 (y.p:Int)):=rfl;rw [h,h2]at h1;injection h1 with h1
 injection h1 with _ h1
 omega
def st (x:SS):SS:=if x.p=15 then bd x else nx x
theorem h_ {x:SS} (h:x.p<=14):st x=nx x:=if_neg (by omega)
theorem doM (x:SS) (h:x.p<=15):hR_ Tryz.prog 9 [.agg (enc x),stepM] (.tup [.agg (enc (st x)),D0]):=by unfold st;split;rename_i h';exact dBd x h';rename_i h';exact dNx x (by omega)
theorem p10 (x:SS):hR_ Tryz.prog 10 [.agg (enc x)] (.bool (Nat.beq x.p 15)):=by refine tN_ (sh:=[some 19]) (ls:=enc x++[]) (c:=c10) (n:=300) (t:=t10) mox ov rfl (by rw [List.append_nil];exact c_ x) rfl (λY _=>u8_ _) rfl (by kernel_rfl) λY hf hg=>?_;unfold t10;refine uP_ (t:=Nat.beq x.p 15) rfl (λh=>ui_ (by rw [h];rfl)) (λh=>u1_ (run_neq ..) rfl (ui_ (by rw [h];rfl)))
theorem p8 (x:SS) (h:x.p<=15):hR_ Tryz.prog 8 [.agg (enc x)] (.agg (enc (a_ x))):=by refine tN_ (sh:=[some 19]) (ls:=enc x++[]) (c:=c8) (n:=300) (t:=t8) mox ov rfl (by rw [List.append_nil];exact c_ x) (bX_ (c_ (a_ x))) (λY _=>u8_ _) rfl (by kernel_rfl) λY hf hg=>?_;unfold t8;refine uj_ (ι:=Nat×SS) (λq=>jI (q.1:Int)::enc q.2) (λq=>q.1+(15-q.2.p)<=15/\q.2.p<=15/\a_ q.2=a_ x) (λq=>15-q.2.p) (0,x) ⟨by show 0+(15-x.p)<=15;omega,h,rfl⟩ rfl (λq _=>c_ q.2) (λq q' _ _ h=>by have:=sO_ (List.cons.inj h).2;show 15-q.2.p=15-q'.2.p;rw [this]) (λq hq=>?_);obtain ⟨k,y⟩:=q;obtain ⟨h1,h2,h3⟩:=hq;have h1:k+(15-y.p)<=15:=h1;have h2:y.p<=15:=h2;have h3:a_ y=a_ x:=h3;refine u1_ (r:=.bool true) ?_ rfl (uP_ (t:=true) rfl (λ_=>?_) (λh=>by cases h));refine (run_lss ..).trans (congrArg (λb=>some (AV.bool b)) (decide_eq_true ?_));omega;refine uh_ (p10 y) rfl rfl (uh_ (doM y h2) rfl (ok_.okL_join (c_ _) rfl) (uP_ rfl (λhd=>ui_ ?_) (λhd=>u1_ (run_add ..) rfl (t7_ rfl ?_))));have hd:y.p=15:=Nat.eq_of_beq_eq_true hd;show AV.agg (enc (st y))=AV.agg (enc (a_ x));rw [←h3,r_ hd,st,if_pos hd];have hd:y.p≠15:=λe=>(by rw [e]at hd;cases hd);have hp:y.p<=14:=(by omega);refine ⟨(k+1,nx y),⟨?_,?_,?_⟩,?_,?_⟩;show k+1+(15-(nx y).p)<=15;rw [o_ hp];omega;show (nx y).p<=15;rw [o_ hp];omega;exact (s_ hp).trans h3;show jI (IntKind.i64.wrap ((k:Int)+1))::enc (st y)=jI ((k+1:Nat):Int)::enc (nx y);rw [h_ hp,n_ (by omega)];show 15-(nx y).p<15-y.p;rw [o_ hp];omega
end Go.Proofs.YtaamplmpnmegdaaGreatDoor.vars
set_option maxRecDepth 100000
set_option linter.unusedVariables false
set_option linter.unusedSimpArgs false
namespace Go.Proofs.YtaamplmpnmegdaaGreatDoor.vars
open Go Go.Sx
def c90:VC:=⟨⟨[],[]⟩,[],[],0,true,[]⟩
def t90:VT:=
 (K (.bin .neq 49 false false) [64,64] 65
 (.ite 65
 (.done (.int .u64 9221120237041090561))
 (K (.ext 153) [64] 66
 (.done (66)))))
def c47:VC:=⟨⟨[],[]⟩,[(90,[none])],[],0,true,[]⟩
def t47:VT:=
 (.call 90 [64] 66 [none]
 (.call 90 [65] 67 [none]
 (K (.bin .eql 193 false false) [66,67] 68
 (.done (68)))))
def c11:VC:=⟨⟨[],[]⟩,[(47,[none])],[],0,true,[]⟩
def t11:VT:=
 (K Q7 [64,64] 68
 (.ite 68
 (.call 47 [.flt .f64 0,.flt .f64 0] 69 [none]
 (K Q3 [69] 70
 (.ite 70
 (.done (.bool false))
 (K Q7 [65,65] 71
 (.ite 71
 (.call 47 [.flt .f64 0,.flt .f64 0] 72 [none]
 (K Q3 [72] 73
 (.ite 73
 (.done (.bool false))
 (K Q7 [66,66] 74
 (.ite 74
 (.call 47 [.flt .f64 0,.flt .f64 0] 75 [none]
 (K Q3 [75] 76
 (.ite 76
 (.done (.bool false))
 (.call 47 [67,67] 77 [none]
 (K Q3 [77] 78
 (.ite 78
 (.done (.bool false))
 (.done (.bool true))))))))
 (.done (.bool false)))))))
 (.done (.bool false)))))))
 (.done (.bool false))))
def L_:Option Nat->Int
 |none=>9221120237041090561
 |some n=>if pT_ n=true then 9221120237041090561 else (n:Int)
theorem sP_ (n:Nat):(XOp.ext 153).run Tryz.prog [.flt .f64 n]=some (.int .u64 (n:Int)):=by kernel_rfl
theorem p90 (o:Option Nat):hR_ Tryz.prog 90 [fv o] (.int .u64 (L_ o)):=by
 refine tN_ (sh:=[none]) (ls:=[fv o]) (c:=c90) (n:=300) (t:=t90) mox ov rfl (by simp only [okL,vl_]) rfl (λY _=>u8_ _) rfl (by kernel_rfl) λY hf hg=>?_;unfold t90;cases o with
 |none=>exact u1_ (r:=.bool true) (by kernel_rfl) rfl (uP_ (t:=true) rfl (λ_=>ui_ rfl) (λh=>by cases h))
 |some n=>refine u1_ (uc_ ..) rfl (uP_ rfl (λh=>ui_ ?_) (λh=>u1_ (sP_ n) rfl (ui_ ?_)));show AV.int _ _=AV.int _ (if pT_ n=true then 9221120237041090561 else (n:Int));exact congrArg (AV.int .u64) (if_pos h).symm;show AV.int _ _=AV.int _ (if pT_ n=true then 9221120237041090561 else (n:Int));exact congrArg (AV.int .u64) (if_neg (by rw [h];exact Bool.false_ne_true)).symm
theorem p47 (o:Option Nat):hR_ Tryz.prog 47 [fv o,fv o] (.bool true):=by refine tN_ (sh:=[none,none]) (ls:=[fv o,fv o]) (c:=c47) (n:=300) (t:=t47) mox ov rfl (by simp only [okL,vl_]) rfl (λY _=>u8_ _) rfl (by kernel_rfl) λY hf hg=>?_;unfold t47;exact uh_ (p90 o) rfl rfl (uh_ (p90 o) rfl rfl (u1_ (run_eql ..) rfl (ui_ (congrArg AV.bool (decide_eq_true rfl)))))
theorem p11 (a o n:Int) (r:Option Nat):hR_ Tryz.prog 11 [.vsl 9 3 (e_ (jI a) (jI o) (jI n) (fv r)),.vsl 9 3 (e_ (jI a) (jI o) (jI n) (fv r))] (.bool true):=by refine pure_pat (args':=[imgS,imgS]) (ls:=[jI a,jI o,jI n,fv r]) (c:=c11) (n:=300) (t:=t11) mox ov (by cases r<;>rfl) rfl (by cases r<;>rfl) rfl (λY _=>rfl) (λY _=>u8_ _) rfl (by kernel_rfl) λY hf hg=>?_;unfold t11;refine u1_ (run_eql ..) rfl (uP_ rfl (λ_=>?_) (λh=>by simp at h));refine uh_ (p47 (some 0)) rfl rfl (u1_ (uW_ ..) rfl (uP_ rfl (λh=>by cases h) (λ_=>?_)));refine u1_ (run_eql ..) rfl (uP_ rfl (λ_=>?_) (λh=>by simp at h));refine uh_ (p47 (some 0)) rfl rfl (u1_ (uW_ ..) rfl (uP_ rfl (λh=>by cases h) (λ_=>?_)));refine u1_ (run_eql ..) rfl (uP_ rfl (λ_=>?_) (λh=>by simp at h));refine uh_ (p47 (some 0)) rfl rfl (u1_ (uW_ ..) rfl (uP_ rfl (λh=>by cases h) (λ_=>?_)));exact uh_ (p47 r) rfl rfl (u1_ (uW_ ..) rfl (uP_ rfl (λh=>by cases h) (λ_=>ui_ rfl)))
end Go.Proofs.YtaamplmpnmegdaaGreatDoor.vars
set_option maxRecDepth 100000
set_option linter.unusedVariables false
set_option linter.unusedSimpArgs false
namespace Go.Proofs.YtaamplmpnmegdaaGreatDoor.vars
open Go Go.Sx
def b_ (c:UInt8×UInt8):List AV:=[.int .u8 (c.1.toNat:Int),.int .u8 (c.2.toNat:Int)]
theorem F_ (c:UInt8×UInt8):okL (b_ c)=true:=rfl
theorem Y_ (c:UInt8×UInt8):(b_ c).length=2:=rfl
theorem g_ {α:Type} {enc:α->List AV} {p:List AV->Prop} (h:∀r,p r->∃a,r=enc a):∀rows:List (List AV),(∀r,r∈rows->p r)->∃l:List α,rows.flatten=h6_ enc l/\l.length=rows.length
 |[],_=>⟨[],rfl,rfl⟩
 |r::rows,hr=>by obtain ⟨a,rfl⟩:=h r (hr r (List.mem_cons_self ..));obtain ⟨l,h1,h2⟩:=g_ h rows λr h=>hr r (List.mem_cons_of_mem _ h);exact ⟨a::l,by rw [List.flatten_cons,h1];rfl,by simp [h2]⟩
theorem l_ {r:List AV} (h:Sx.Fit Tryz.prog 5 r):∃c:UInt8,r=[.int .u8 (c.toNat:Int)]:=by
 obtain ⟨n,rfl,hn⟩:=tb_ Tryz.underlying5 h;have hn:0<=n/\n<=255:=by simpa [Lit.wf,IntKind.min,IntKind.max,IntKind.bits,IntKind.signed]using hn
 refine ⟨n.toNat.toUInt8,?_⟩;have:((n.toNat.toUInt8).toNat:Int)=n:=by have h1:n.toNat.toUInt8.toNat=n.toNat:=(by simp only [Nat.toUInt8,UInt8.toNat_ofNat'];omega);rw [h1];omega
 rw [this]
theorem y_ {r:List AV} (h:Sx.Fit Tryz.prog 48 r):∃c:UInt8×UInt8,r=b_ c:=by
 obtain ⟨parts,rfl,h1,h2⟩:=r5_ Tryz.underlying48 h
 match parts,h1,h2 with
 |[a,b],_,h2=>obtain ⟨c,rfl⟩:=l_ (h2 a (by simp));obtain ⟨d,rfl⟩:=l_ (h2 b (by simp));exact ⟨(c,d),rfl⟩
theorem arg_u2s {H:Type} {enc:TypeId×Value->H} {W:World} {base:Nat} {v:Value} {dd:DataW H} {p ps:List MemPlace} (hok:Value.okWide Tryz.prog W .any base 22 v)
  (h:DataW.Trod enc Tryz.prog W 0 (λ_=>true) true 22 v dd p) (hps:∀q,q∈p->q∈ps):∃(l:List (UInt8×UInt8)) (a:AV),SlV b_ 2 l a/\True/\l.length<=maxLen/\Con (lN_ (ij_ W ps)) a v:=by
 rcases t8_ (d:=5) Tryz.underlying22 (by kernel_rfl) hok h hps with rfl|⟨rows,h1,h2,h3,h4⟩;exact ⟨[],.nsl,.inr ⟨rfl,rfl⟩,trivial,Nat.zero_le _,by simp only [Con]⟩;obtain ⟨l,k1,k2⟩:=g_ (enc:=b_) (λr hr=>y_ hr) rows h1;have hc:Tryz.prog.cellsOf 48=2:=(by kernel_rfl);refine ⟨l,pj_ b_ 2 l,.inl rfl,trivial,by omega,?_⟩;have h4':=h4;rw [k1,hc,←k2]at h4';exact h4'
end Go.Proofs.YtaamplmpnmegdaaGreatDoor.vars
set_option maxRecDepth 100000
set_option linter.unusedVariables false
namespace Go.Proofs.YtaamplmpnmegdaaGreatDoor.vars
open Go Go.Sx
namespace Beg
abbrev G (l:List (FuncId×List AV×AV)):Gl:=en_ 1 l
theorem o0: @lq_ (G []) Tryz.prog:=uU_ 1 Tryz.prog
theorem fx1:Tryz.prog.funcs[262]? =some Tryz.f262:=Tryz.func262
theorem fx2:(Tryz.f262.name== "runtime.NumGoroutine")=false:=by kernel_rfl
theorem fx3:Tryz.f262.body.isNone=true:=by kernel_rfl
theorem fx4:Extern.findNext Tryz.f262=none:=by kernel_rfl
theorem fx5:Extern.find Tryz.f262=some Extern.BytealgIndex.index:=by kernel_rfl
theorem fx6:Tryz.prog.globals.findIdx? (·.name==(entryReads.headD ("","")).2)=some 1:=by kernel_rfl
def a0:List AV:=[.str [58,61,32,60,62,32,60,61,32,62,61],.str [58,61]]
def v0:AV:=.int .i64 0
theorem e0: @tk_ (G []) Tryz.prog 300 2 262 225 a0 v0=true:=by kernel_rfl
def l1:List (FuncId×List AV×AV):=(225,a0,v0)::[]
theorem h0: @hR_ (G []) Tryz.prog 225 a0 v0:=uz_ mox o0 fx1 fx2 fx3 fx4 fx5 fx6 (by kernel_rfl) e0
theorem o1: @lq_ (G l1) Tryz.prog:=uC_ o0 h0
def a1:List AV:=[.str [58,61,32,60,62,32,60,61,32,62,61],.str [91,51]]
def v1:AV:=.int .i64 (-1)
theorem e1: @tk_ (G l1) Tryz.prog 300 2 262 225 a1 v1=true:=by kernel_rfl
def l2:List (FuncId×List AV×AV):=(225,a1,v1)::l1
theorem h1: @hR_ (G l1) Tryz.prog 225 a1 v1:=uz_ mox o1 fx1 fx2 fx3 fx4 fx5 fx6 (by kernel_rfl) e1
theorem o2: @lq_ (G l2) Tryz.prog:=uC_ o1 h1
def a2:List AV:=[.str [58,61,32,60,62,32,60,61,32,62,61],.str [93,59]]
def v2:AV:=.int .i64 (-1)
theorem e2: @tk_ (G l2) Tryz.prog 300 2 262 225 a2 v2=true:=by kernel_rfl
def l3:List (FuncId×List AV×AV):=(225,a2,v2)::l2
theorem h2: @hR_ (G l2) Tryz.prog 225 a2 v2:=uz_ mox o2 fx1 fx2 fx3 fx4 fx5 fx6 (by kernel_rfl) e2
theorem o3: @lq_ (G l3) Tryz.prog:=uC_ o2 h2
def a3:List AV:=[.str [58,61,32,60,62,32,60,61,32,62,61],.str [91,120]]
def v3:AV:=.int .i64 (-1)
theorem e3: @tk_ (G l3) Tryz.prog 300 2 262 225 a3 v3=true:=by kernel_rfl
def l4:List (FuncId×List AV×AV):=(225,a3,v3)::l3
theorem h3: @hR_ (G l3) Tryz.prog 225 a3 v3:=uz_ mox o3 fx1 fx2 fx3 fx4 fx5 fx6 (by kernel_rfl) e3
theorem o4: @lq_ (G l4) Tryz.prog:=uC_ o3 h3
def a4:List AV:=[.str [105,110,32,97,32,58,32,105,110,116,59,32,105,110,32,98,32,58,32,98,111,111,108,59,32,111,117,116,32,111,32,58,32,105,110,116,32,58,61,32,49,44,32,57,59,32,118,97,114,32,110,32,58,32,105,110,116,59,32,118,97,114,32,120,32,58,32,105,110,116,59,32,118,97,114,32,114,32,58,32,114,101,97,108,59,32,118,97,114,32,107,32,58,32,105,110,116,91,51,93,59,32,110,32,58,61,32,110,32,43,32,49,59,32,111,32,58,61,32,120,32,43,32,97,59,32,105,102,32,98,32,116,104,101,110,32,107,91,120,93,32,58,61,32,97,59,32,101,110,100,32,114,32,58,61,32,114,32,43,32,48,46,53,59]]
def v4:AV:=.tup [.vsl 71 5 [.int .i64 1,.str [105,110],.int .i64 0,.flt .f64 0,.int .i64 0,.int .i64 1,.str [97],.int .i64 0,.flt .f64 0,.int .i64 3,.int .i64 5,.str [58],.int .i64 0,.flt .f64 0,.int .i64 5,.int .i64 1,.str [105,110,116],.int .i64 0,.flt .f64 0,.int .i64 7,.int .i64 5,.str [59],.int .i64 0,.flt .f64 0,.int .i64 10,.int .i64 1,.str [105,110],.int .i64 0,.flt .f64 0,.int .i64 12,.int .i64 1,.str [98],.int .i64 0,.flt .f64 0,.int .i64 15,.int .i64 5,.str [58],.int .i64 0,.flt .f64 0,.int .i64 17,.int .i64 1,.str [98,111,111,108],.int .i64 0,.flt .f64 0,.int .i64 19,.int .i64 5,.str [59],.int .i64 0,.flt .f64 0,.int .i64 23,.int .i64 1,.str [111,117,116],.int .i64 0,.flt .f64 0,.int .i64 25,.int .i64 1,.str [111],.int .i64 0,.flt .f64 0,.int .i64 29,.int .i64 5,.str [58],.int .i64 0,.flt .f64 0,.int .i64 31,.int .i64 1,.str [105,110,116],.int .i64 0,.flt .f64 0,.int .i64 33,.int .i64 5,.str [58,61],.int .i64 0,.flt .f64 0,.int .i64 37,.int .i64 2,.str [],.int .i64 1,.flt .f64 0,.int .i64 40,.int .i64 5,.str [44],.int .i64 0,.flt .f64 0,.int .i64 41,.int .i64 2,.str [],.int .i64 9,.flt .f64 0,.int .i64 43,.int .i64 5,.str [59],.int .i64 0,.flt .f64 0,.int .i64 44,.int .i64 1,.str [118,97,114],.int .i64 0,.flt .f64 0,.int .i64 46,.int .i64 1,.str [110],.int .i64 0,.flt .f64 0,.int .i64 50,.int .i64 5,.str [58],.int .i64 0,.flt .f64 0,.int .i64 52,.int .i64 1,.str [105,110,116],.int .i64 0,.flt .f64 0,.int .i64 54,.int .i64 5,.str [59],.int .i64 0,.flt .f64 0,.int .i64 57,.int .i64 1,.str [118,97,114],.int .i64 0,.flt .f64 0,.int .i64 59,.int .i64 1,.str [120],.int .i64 0,.flt .f64 0,.int .i64 63,.int .i64 5,.str [58],.int .i64 0,.flt .f64 0,.int .i64 65,.int .i64 1,.str [105,110,116],.int .i64 0,.flt .f64 0,.int .i64 67,.int .i64 5,.str [59],.int .i64 0,.flt .f64 0,.int .i64 70,.int .i64 1,.str [118,97,114],.int .i64 0,.flt .f64 0,.int .i64 72,.int .i64 1,.str [114],.int .i64 0,.flt .f64 0,.int .i64 76,.int .i64 5,.str [58],.int .i64 0,.flt .f64 0,.int .i64 78,.int .i64 1,.str [114,101,97,108],.int .i64 0,.flt .f64 0,.int .i64 80,.int .i64 5,.str [59],.int .i64 0,.flt .f64 0,.int .i64 84,.int .i64 1,.str [118,97,114],.int .i64 0,.flt .f64 0,.int .i64 86,.int .i64 1,.str [107],.int .i64 0,.flt .f64 0,.int .i64 90,.int .i64 5,.str [58],.int .i64 0,.flt .f64 0,.int .i64 92,.int .i64 1,.str [105,110,116],.int .i64 0,.flt .f64 0,.int .i64 94,.int .i64 5,.str [91],.int .i64 0,.flt .f64 0,.int .i64 97,.int .i64 2,.str [],.int .i64 3,.flt .f64 0,.int .i64 98,.int .i64 5,.str [93],.int .i64 0,.flt .f64 0,.int .i64 99,.int .i64 5,.str [59],.int .i64 0,.flt .f64 0,.int .i64 100,.int .i64 1,.str [110],.int .i64 0,.flt .f64 0,.int .i64 102,.int .i64 5,.str [58,61],.int .i64 0,.flt .f64 0,.int .i64 104,.int .i64 1,.str [110],.int .i64 0,.flt .f64 0,.int .i64 107,.int .i64 5,.str [43],.int .i64 0,.flt .f64 0,.int .i64 109,.int .i64 2,.str [],.int .i64 1,.flt .f64 0,.int .i64 111,.int .i64 5,.str [59],.int .i64 0,.flt .f64 0,.int .i64 112,.int .i64 1,.str [111],.int .i64 0,.flt .f64 0,.int .i64 114,.int .i64 5,.str [58,61],.int .i64 0,.flt .f64 0,.int .i64 116,.int .i64 1,.str [120],.int .i64 0,.flt .f64 0,.int .i64 119,.int .i64 5,.str [43],.int .i64 0,.flt .f64 0,.int .i64 121,.int .i64 1,.str [97],.int .i64 0,.flt .f64 0,.int .i64 123,.int .i64 5,.str [59],.int .i64 0,.flt .f64 0,.int .i64 124,.int .i64 1,.str [105,102],.int .i64 0,.flt .f64 0,.int .i64 126,.int .i64 1,.str [98],.int .i64 0,.flt .f64 0,.int .i64 129,.int .i64 1,.str [116,104,101,110],.int .i64 0,.flt .f64 0,.int .i64 131,.int .i64 1,.str [107],.int .i64 0,.flt .f64 0,.int .i64 136,.int .i64 5,.str [91],.int .i64 0,.flt .f64 0,.int .i64 137,.int .i64 1,.str [120],.int .i64 0,.flt .f64 0,.int .i64 138,.int .i64 5,.str [93],.int .i64 0,.flt .f64 0,.int .i64 139,.int .i64 5,.str [58,61],.int .i64 0,.flt .f64 0,.int .i64 141,.int .i64 1,.str [97],.int .i64 0,.flt .f64 0,.int .i64 144,.int .i64 5,.str [59],.int .i64 0,.flt .f64 0,.int .i64 145,.int .i64 1,.str [101,110,100],.int .i64 0,.flt .f64 0,.int .i64 147,.int .i64 1,.str [114],.int .i64 0,.flt .f64 0,.int .i64 151,.int .i64 5,.str [58,61],.int .i64 0,.flt .f64 0,.int .i64 153,.int .i64 1,.str [114],.int .i64 0,.flt .f64 0,.int .i64 156,.int .i64 5,.str [43],.int .i64 0,.flt .f64 0,.int .i64 158,.int .i64 3,.str [],.int .i64 0,.flt .f64 4602678819172646912,.int .i64 160,.int .i64 5,.str [59],.int .i64 0,.flt .f64 0,.int .i64 163],.int .i64 0,.bool true]
theorem e4: @uy_ (G l4) Tryz.prog 3000 23 a4 v4=true:=by kernel_rfl
def l5:List (FuncId×List AV×AV):=(23,a4,v4)::l4
theorem h4: @hR_ (G l4) Tryz.prog 23 a4 v4:= @uR_ (G l4) Tryz.prog mox o4 3000 23 a4 v4 e4
theorem o5: @lq_ (G l5) Tryz.prog:=uC_ o4 h4
def a5:List AV:=[.str [105,110,32,97,32,58,32,105,110,116,59,32,105,110,32,98,32,58,32,98,111,111,108,59,32,111,117,116,32,111,32,58,32,105,110,116,32,58,61,32,49,44,32,57,59,32,118,97,114,32,110,32,58,32,105,110,116,59,32,118,97,114,32,120,32,58,32,105,110,116,59,32,118,97,114,32,114,32,58,32,114,101,97,108,59,32,118,97,114,32,107,32,58,32,105,110,116,91,51,93,59,32,110,32,58,61,32,110,32,43,32,49,59,32,111,32,58,61,32,120,32,43,32,97,59,32,105,102,32,98,32,116,104,101,110,32,107,91,120,93,32,58,61,32,97,59,32,101,110,100,32,114,32,58,61,32,114,32,43,32,48,46,53,59]]
def v5:AV:=.tup [.agg [VARS2,.vsl 4 27 [.int .i64 1,.int .i64 2,.int .i64 0,.str [110],.str [],.int .i64 0,.int .i64 0,.int .i64 0,.int .i64 0,.flt .f64 0,.nsl,.int .i64 4,.int .i64 0,.str [],.str [],.int .i64 0,.int .i64 0,.int .i64 0,.int .i64 0,.flt .f64 0,.vsl 2 10 [.int .i64 2,.int .i64 0,.str [110],.str [],.int .i64 0,.int .i64 0,.int .i64 0,.int .i64 0,.flt .f64 0,.nsl,.int .i64 1,.int .i64 0,.str [],.str [],.int .i64 0,.int .i64 0,.int .i64 3,.int .i64 1,.flt .f64 0,.nsl],.nsl,.nsl,.str [],.int .i64 0,.int .i64 0,.nsl,.int .i64 1,.int .i64 2,.int .i64 0,.str [111],.str [],.int .i64 0,.int .i64 0,.int .i64 0,.int .i64 0,.flt .f64 0,.nsl,.int .i64 4,.int .i64 0,.str [],.str [],.int .i64 0,.int .i64 0,.int .i64 0,.int .i64 0,.flt .f64 0,.vsl 2 10 [.int .i64 2,.int .i64 0,.str [120],.str [],.int .i64 0,.int .i64 0,.int .i64 0,.int .i64 0,.flt .f64 0,.nsl,.int .i64 2,.int .i64 0,.str [97],.str [],.int .i64 0,.int .i64 0,.int .i64 0,.int .i64 0,.flt .f64 0,.nsl],.nsl,.nsl,.str [],.int .i64 0,.int .i64 0,.nsl,.int .i64 2,.int .i64 0,.int .i64 0,.str [],.str [],.int .i64 0,.int .i64 0,.int .i64 0,.int .i64 0,.flt .f64 0,.nsl,.int .i64 2,.int .i64 0,.str [98],.str [],.int .i64 0,.int .i64 0,.int .i64 0,.int .i64 0,.flt .f64 0,.nsl,.vsl 1 27 [.int .i64 1,.int .i64 3,.int .i64 0,.str [107],.str [],.int .i64 0,.int .i64 0,.int .i64 0,.int .i64 0,.flt .f64 0,.vsl 1 10 [.int .i64 2,.int .i64 0,.str [120],.str [],.int .i64 0,.int .i64 0,.int .i64 0,.int .i64 0,.flt .f64 0,.nsl],.int .i64 2,.int .i64 0,.str [97],.str [],.int .i64 0,.int .i64 0,.int .i64 0,.int .i64 0,.flt .f64 0,.nsl,.nsl,.nsl,.str [],.int .i64 0,.int .i64 0,.nsl],.nsl,.str [],.int .i64 0,.int .i64 0,.nsl,.int .i64 1,.int .i64 2,.int .i64 0,.str [114],.str [],.int .i64 0,.int .i64 0,.int .i64 0,.int .i64 0,.flt .f64 0,.nsl,.int .i64 4,.int .i64 0,.str [],.str [],.int .i64 0,.int .i64 0,.int .i64 0,.int .i64 0,.flt .f64 0,.vsl 2 10 [.int .i64 2,.int .i64 0,.str [114],.str [],.int .i64 0,.int .i64 0,.int .i64 0,.int .i64 0,.flt .f64 0,.nsl,.int .i64 1,.int .i64 0,.str [],.str [],.int .i64 0,.int .i64 0,.int .i64 5,.int .i64 0,.flt .f64 4602678819172646912,.nsl],.nsl,.nsl,.str [],.int .i64 0,.int .i64 0,.nsl]],.int .i64 0,.bool true]
theorem e5: @uy_ (G l5) Tryz.prog 3000 12 a5 v5=true:=by kernel_rfl
def l6:List (FuncId×List AV×AV):=(12,a5,v5)::l5
theorem h5: @hR_ (G l5) Tryz.prog 12 a5 v5:= @uR_ (G l5) Tryz.prog mox o5 3000 12 a5 v5 e5
theorem o6: @lq_ (G l6) Tryz.prog:=uC_ o5 h5
def a6:List AV:=[VARS2]
def v6:AV:=.int .i64 0
theorem e6: @uy_ (G l6) Tryz.prog 3000 27 a6 v6=true:=by kernel_rfl
def l7:List (FuncId×List AV×AV):=(27,a6,v6)::l6
theorem h6: @hR_ (G l6) Tryz.prog 27 a6 v6:= @uR_ (G l6) Tryz.prog mox o6 3000 27 a6 v6 e6
theorem o7: @lq_ (G l7) Tryz.prog:=uC_ o6 h6
def a7:List AV:=[VARS2]
def v7:AV:=.tup [.vsl 7 1 [.int .i64 0,.int .i64 1,.int .i64 2,.int .i64 3,.int .i64 4,.int .i64 5,.int .i64 6],.int .i64 9]
theorem e7: @uy_ (G l7) Tryz.prog 3000 28 a7 v7=true:=by kernel_rfl
def l8:List (FuncId×List AV×AV):=(28,a7,v7)::l7
theorem h7: @hR_ (G l7) Tryz.prog 28 a7 v7:= @uR_ (G l7) Tryz.prog mox o7 3000 28 a7 v7 e7
theorem o8: @lq_ (G l8) Tryz.prog:=uC_ o7 h7
def a8:List AV:=[.agg [VARS2,.vsl 4 27 [.int .i64 1,.int .i64 2,.int .i64 0,.str [110],.str [],.int .i64 0,.int .i64 0,.int .i64 0,.int .i64 0,.flt .f64 0,.nsl,.int .i64 4,.int .i64 0,.str [],.str [],.int .i64 0,.int .i64 0,.int .i64 0,.int .i64 0,.flt .f64 0,.vsl 2 10 [.int .i64 2,.int .i64 0,.str [110],.str [],.int .i64 0,.int .i64 0,.int .i64 0,.int .i64 0,.flt .f64 0,.nsl,.int .i64 1,.int .i64 0,.str [],.str [],.int .i64 0,.int .i64 0,.int .i64 3,.int .i64 1,.flt .f64 0,.nsl],.nsl,.nsl,.str [],.int .i64 0,.int .i64 0,.nsl,.int .i64 1,.int .i64 2,.int .i64 0,.str [111],.str [],.int .i64 0,.int .i64 0,.int .i64 0,.int .i64 0,.flt .f64 0,.nsl,.int .i64 4,.int .i64 0,.str [],.str [],.int .i64 0,.int .i64 0,.int .i64 0,.int .i64 0,.flt .f64 0,.vsl 2 10 [.int .i64 2,.int .i64 0,.str [120],.str [],.int .i64 0,.int .i64 0,.int .i64 0,.int .i64 0,.flt .f64 0,.nsl,.int .i64 2,.int .i64 0,.str [97],.str [],.int .i64 0,.int .i64 0,.int .i64 0,.int .i64 0,.flt .f64 0,.nsl],.nsl,.nsl,.str [],.int .i64 0,.int .i64 0,.nsl,.int .i64 2,.int .i64 0,.int .i64 0,.str [],.str [],.int .i64 0,.int .i64 0,.int .i64 0,.int .i64 0,.flt .f64 0,.nsl,.int .i64 2,.int .i64 0,.str [98],.str [],.int .i64 0,.int .i64 0,.int .i64 0,.int .i64 0,.flt .f64 0,.nsl,.vsl 1 27 [.int .i64 1,.int .i64 3,.int .i64 0,.str [107],.str [],.int .i64 0,.int .i64 0,.int .i64 0,.int .i64 0,.flt .f64 0,.vsl 1 10 [.int .i64 2,.int .i64 0,.str [120],.str [],.int .i64 0,.int .i64 0,.int .i64 0,.int .i64 0,.flt .f64 0,.nsl],.int .i64 2,.int .i64 0,.str [97],.str [],.int .i64 0,.int .i64 0,.int .i64 0,.int .i64 0,.flt .f64 0,.nsl,.nsl,.nsl,.str [],.int .i64 0,.int .i64 0,.nsl],.nsl,.str [],.int .i64 0,.int .i64 0,.nsl,.int .i64 1,.int .i64 2,.int .i64 0,.str [114],.str [],.int .i64 0,.int .i64 0,.int .i64 0,.int .i64 0,.flt .f64 0,.nsl,.int .i64 4,.int .i64 0,.str [],.str [],.int .i64 0,.int .i64 0,.int .i64 0,.int .i64 0,.flt .f64 0,.vsl 2 10 [.int .i64 2,.int .i64 0,.str [114],.str [],.int .i64 0,.int .i64 0,.int .i64 0,.int .i64 0,.flt .f64 0,.nsl,.int .i64 1,.int .i64 0,.str [],.str [],.int .i64 0,.int .i64 0,.int .i64 5,.int .i64 0,.flt .f64 4602678819172646912,.nsl],.nsl,.nsl,.str [],.int .i64 0,.int .i64 0,.nsl]]]
def v8:AV:=.tup [.agg [VARS2,BODY2],.int .i64 0]
theorem e8: @uy_ (G l8) Tryz.prog 3000 14 a8 v8=true:=by kernel_rfl
def l9:List (FuncId×List AV×AV):=(14,a8,v8)::l8
theorem h8: @hR_ (G l8) Tryz.prog 14 a8 v8:= @uR_ (G l8) Tryz.prog mox o8 3000 14 a8 v8 e8
theorem o9: @lq_ (G l9) Tryz.prog:=uC_ o8 h8
def a9:List AV:=[.agg [VARS2,BODY2]]
def v9:AV:=.tup [CODE2,.int .i64 0]
theorem e9: @uy_ (G l9) Tryz.prog 3000 16 a9 v9=true:=by kernel_rfl
def N_:List (FuncId×List AV×AV):=(16,a9,v9)::l9
theorem h9: @hR_ (G l9) Tryz.prog 16 a9 v9:= @uR_ (G l9) Tryz.prog mox o9 3000 16 a9 v9 e9
theorem o10: @lq_ (G N_) Tryz.prog:=uC_ o9 h9
def a10:List AV:=[CODE2,.int .i64 9]
def v10:AV:=.int .i64 0
theorem e10: @uy_ (G N_) Tryz.prog 3000 36 a10 v10=true:=by kernel_rfl
def O_:List (FuncId×List AV×AV):=(36,a10,v10)::N_
theorem h10: @hR_ (G N_) Tryz.prog 36 a10 v10:= @uR_ (G N_) Tryz.prog mox o10 3000 36 a10 v10 e10
theorem o11: @lq_ (G O_) Tryz.prog:=uC_ o10 h10
def a11:List AV:=[.agg [VARS2,BODY2],CODE2,.int .i64 100]
def v11:AV:=.tup [.agg [VARS2,CODE2,.int .i64 100,.vsl 9 3 [.int .i64 2,.int .i64 0,.flt .f64 0,.int .i64 1,.int .i64 0,.flt .f64 0,.int .i64 2,.int .i64 1,.flt .f64 0,.int .i64 2,.int .i64 0,.flt .f64 0,.int .i64 2,.int .i64 0,.flt .f64 0,.int .i64 5,.int .i64 0,.flt .f64 0,.int .i64 2,.int .i64 0,.flt .f64 0,.int .i64 2,.int .i64 0,.flt .f64 0,.int .i64 2,.int .i64 0,.flt .f64 0],.int .i64 0,.nsl,.nsl,.int .i64 0,.int .i64 0,.bool true,.int .i64 0,.int .i64 0,.int .i64 0],.int .i64 0]
theorem e11: @uy_ (G O_) Tryz.prog 3000 17 a11 v11=true:=by kernel_rfl
def P_:List (FuncId×List AV×AV):=(17,a11,v11)::O_
theorem h11: @hR_ (G O_) Tryz.prog 17 a11 v11:= @uR_ (G O_) Tryz.prog mox o11 3000 17 a11 v11 e11
theorem o12: @lq_ (G P_) Tryz.prog:=uC_ o11 h11
def a12:List AV:=[.str [105,110,32,97,32,58,32,105,110,116,59,32,105,110,32,98,32,58,32,98,111,111,108,59,32,111,117,116,32,111,32,58,32,105,110,116,32,58,61,32,49,44,32,57,59,32,118,97,114,32,110,32,58,32,105,110,116,59,32,118,97,114,32,120,32,58,32,105,110,116,59,32,118,97,114,32,114,32,58,32,114,101,97,108,59,32,118,97,114,32,107,32,58,32,105,110,116,91,51,93,59,32,110,32,58,61,32,110,32,43,32,49,59,32,111,32,58,61,32,120,32,43,32,97,59,32,105,102,32,98,32,116,104,101,110,32,107,91,120,93,32,58,61,32,97,59,32,101,110,100,32,114,32,58,61,32,114,32,43,32,48,46,53,59],.int .i64 100]
def v12:AV:=.tup [.agg [VARS2,BODY2,VARS2,CODE2,.int .i64 100,.vsl 9 3 [.int .i64 2,.int .i64 0,.flt .f64 0,.int .i64 1,.int .i64 0,.flt .f64 0,.int .i64 2,.int .i64 1,.flt .f64 0,.int .i64 2,.int .i64 0,.flt .f64 0,.int .i64 2,.int .i64 0,.flt .f64 0,.int .i64 5,.int .i64 0,.flt .f64 0,.int .i64 2,.int .i64 0,.flt .f64 0,.int .i64 2,.int .i64 0,.flt .f64 0,.int .i64 2,.int .i64 0,.flt .f64 0],.int .i64 0,.nsl,.nsl,.int .i64 0,.int .i64 0,.bool true,.int .i64 0,.int .i64 0,.int .i64 0,.int .i64 0,SESS0,.nsl,.vsl 9 3 [.int .i64 2,.int .i64 0,.flt .f64 0,.int .i64 1,.int .i64 0,.flt .f64 0,.int .i64 2,.int .i64 1,.flt .f64 0,.int .i64 2,.int .i64 0,.flt .f64 0,.int .i64 2,.int .i64 0,.flt .f64 0,.int .i64 5,.int .i64 0,.flt .f64 0,.int .i64 2,.int .i64 0,.flt .f64 0,.int .i64 2,.int .i64 0,.flt .f64 0,.int .i64 2,.int .i64 0,.flt .f64 0]],.int .i64 0,.int .i64 0]
theorem e12: @uy_ (G P_) Tryz.prog 3000 6 a12 v12=true:=by kernel_rfl
def Q_:List (FuncId×List AV×AV):=(6,a12,v12)::P_
theorem h12: @hR_ (G P_) Tryz.prog 6 a12 v12:= @uR_ (G P_) Tryz.prog mox o12 3000 6 a12 v12 e12
theorem o13: @lq_ (G Q_) Tryz.prog:=uC_ o12 h12
def a13:List AV:=[.agg [VARS2,BODY2,VARS2,CODE2,.int .i64 100,.vsl 9 3 [.int .i64 2,.int .i64 0,.flt .f64 0,.int .i64 1,.int .i64 0,.flt .f64 0,.int .i64 2,.int .i64 1,.flt .f64 0,.int .i64 2,.int .i64 0,.flt .f64 0,.int .i64 2,.int .i64 0,.flt .f64 0,.int .i64 5,.int .i64 0,.flt .f64 0,.int .i64 2,.int .i64 0,.flt .f64 0,.int .i64 2,.int .i64 0,.flt .f64 0,.int .i64 2,.int .i64 0,.flt .f64 0],.int .i64 0,.nsl,.nsl,.int .i64 0,.int .i64 0,.bool true,.int .i64 0,.int .i64 0,.int .i64 0,.int .i64 0,SESS0,.nsl,.vsl 9 3 [.int .i64 2,.int .i64 0,.flt .f64 0,.int .i64 1,.int .i64 0,.flt .f64 0,.int .i64 2,.int .i64 1,.flt .f64 0,.int .i64 2,.int .i64 0,.flt .f64 0,.int .i64 2,.int .i64 0,.flt .f64 0,.int .i64 5,.int .i64 0,.flt .f64 0,.int .i64 2,.int .i64 0,.flt .f64 0,.int .i64 2,.int .i64 0,.flt .f64 0,.int .i64 2,.int .i64 0,.flt .f64 0]],stepM]
def v13:AV:=.tup [.agg [VARS2,BODY2,VARS2,CODE2,.int .i64 100,.vsl 9 3 [.int .i64 2,.int .i64 0,.flt .f64 0,.int .i64 1,.int .i64 0,.flt .f64 0,.int .i64 2,.int .i64 1,.flt .f64 0,.int .i64 2,.int .i64 0,.flt .f64 0,.int .i64 2,.int .i64 0,.flt .f64 0,.int .i64 5,.int .i64 0,.flt .f64 0,.int .i64 2,.int .i64 0,.flt .f64 0,.int .i64 2,.int .i64 0,.flt .f64 0,.int .i64 2,.int .i64 0,.flt .f64 0],.int .i64 0,.nsl,.vsl 9 3 [.int .i64 2,.int .i64 0,.flt .f64 0,.int .i64 1,.int .i64 0,.flt .f64 0,.int .i64 2,.int .i64 1,.flt .f64 0,.int .i64 2,.int .i64 0,.flt .f64 0,.int .i64 2,.int .i64 0,.flt .f64 0,.int .i64 5,.int .i64 0,.flt .f64 0,.int .i64 2,.int .i64 0,.flt .f64 0,.int .i64 2,.int .i64 0,.flt .f64 0,.int .i64 2,.int .i64 0,.flt .f64 0],.int .i64 0,.int .i64 0,.bool false,.int .i64 0,.int .i64 0,.int .i64 0,.int .i64 0,SESS0,.nsl,.vsl 9 3 [.int .i64 2,.int .i64 0,.flt .f64 0,.int .i64 1,.int .i64 0,.flt .f64 0,.int .i64 2,.int .i64 1,.flt .f64 0,.int .i64 2,.int .i64 0,.flt .f64 0,.int .i64 2,.int .i64 0,.flt .f64 0,.int .i64 5,.int .i64 0,.flt .f64 0,.int .i64 2,.int .i64 0,.flt .f64 0,.int .i64 2,.int .i64 0,.flt .f64 0,.int .i64 2,.int .i64 0,.flt .f64 0]],.agg [.int .i64 0,.nsl]]
theorem e13: @uy_ (G Q_) Tryz.prog 3000 9 a13 v13=true:=by kernel_rfl
def R_:List (FuncId×List AV×AV):=(9,a13,v13)::Q_
theorem h13: @hR_ (G Q_) Tryz.prog 9 a13 v13:= @uR_ (G Q_) Tryz.prog mox o13 3000 9 a13 v13 e13
theorem o14: @lq_ (G R_) Tryz.prog:=uC_ o13 h13
def a14:List AV:=[.agg [VARS2,BODY2,VARS2,CODE2,.int .i64 100,.vsl 9 3 [.int .i64 2,.int .i64 0,.flt .f64 0,.int .i64 1,.int .i64 0,.flt .f64 0,.int .i64 2,.int .i64 1,.flt .f64 0,.int .i64 2,.int .i64 0,.flt .f64 0,.int .i64 2,.int .i64 0,.flt .f64 0,.int .i64 5,.int .i64 0,.flt .f64 0,.int .i64 2,.int .i64 0,.flt .f64 0,.int .i64 2,.int .i64 0,.flt .f64 0,.int .i64 2,.int .i64 0,.flt .f64 0],.int .i64 0,.nsl,.vsl 9 3 [.int .i64 2,.int .i64 0,.flt .f64 0,.int .i64 1,.int .i64 0,.flt .f64 0,.int .i64 2,.int .i64 1,.flt .f64 0,.int .i64 2,.int .i64 0,.flt .f64 0,.int .i64 2,.int .i64 0,.flt .f64 0,.int .i64 5,.int .i64 0,.flt .f64 0,.int .i64 2,.int .i64 0,.flt .f64 0,.int .i64 2,.int .i64 0,.flt .f64 0,.int .i64 2,.int .i64 0,.flt .f64 0],.int .i64 0,.int .i64 0,.bool false,.int .i64 0,.int .i64 0,.int .i64 0,.int .i64 0,SESS0,.nsl,.vsl 9 3 [.int .i64 2,.int .i64 0,.flt .f64 0,.int .i64 1,.int .i64 0,.flt .f64 0,.int .i64 2,.int .i64 1,.flt .f64 0,.int .i64 2,.int .i64 0,.flt .f64 0,.int .i64 2,.int .i64 0,.flt .f64 0,.int .i64 5,.int .i64 0,.flt .f64 0,.int .i64 2,.int .i64 0,.flt .f64 0,.int .i64 2,.int .i64 0,.flt .f64 0,.int .i64 2,.int .i64 0,.flt .f64 0]],.agg [.int .i64 2,.int .i64 9,.int .i64 0,.nsl,.int .i64 0,.int .i64 0,.flt .f64 0]]
def v14:AV:=.tup [.agg [VARS2,BODY2,VARS2,CODE2,.int .i64 100,.vsl 9 3 [.int .i64 2,.int .i64 0,.flt .f64 0,.int .i64 1,.int .i64 0,.flt .f64 0,.int .i64 2,.int .i64 1,.flt .f64 0,.int .i64 2,.int .i64 0,.flt .f64 0,.int .i64 2,.int .i64 0,.flt .f64 0,.int .i64 5,.int .i64 0,.flt .f64 0,.int .i64 2,.int .i64 0,.flt .f64 0,.int .i64 2,.int .i64 0,.flt .f64 0,.int .i64 2,.int .i64 0,.flt .f64 0],.int .i64 0,.nsl,.vsl 9 3 [.int .i64 2,.int .i64 0,.flt .f64 0,.int .i64 1,.int .i64 0,.flt .f64 0,.int .i64 2,.int .i64 1,.flt .f64 0,.int .i64 2,.int .i64 0,.flt .f64 0,.int .i64 2,.int .i64 0,.flt .f64 0,.int .i64 5,.int .i64 0,.flt .f64 0,.int .i64 2,.int .i64 0,.flt .f64 0,.int .i64 2,.int .i64 0,.flt .f64 0,.int .i64 2,.int .i64 0,.flt .f64 0],.int .i64 0,.int .i64 0,.bool false,.int .i64 0,.int .i64 0,.int .i64 0,.int .i64 0,SESS0,.nsl,.vsl 9 3 [.int .i64 2,.int .i64 0,.flt .f64 0,.int .i64 1,.int .i64 0,.flt .f64 0,.int .i64 2,.int .i64 1,.flt .f64 0,.int .i64 2,.int .i64 0,.flt .f64 0,.int .i64 2,.int .i64 0,.flt .f64 0,.int .i64 5,.int .i64 0,.flt .f64 0,.int .i64 2,.int .i64 0,.flt .f64 0,.int .i64 2,.int .i64 0,.flt .f64 0,.int .i64 2,.int .i64 0,.flt .f64 0]],.agg [.int .i64 1,.nsl]]
theorem e14: @uy_ (G R_) Tryz.prog 3000 9 a14 v14=true:=by kernel_rfl
def S_:List (FuncId×List AV×AV):=(9,a14,v14)::R_
theorem h14: @hR_ (G R_) Tryz.prog 9 a14 v14:= @uR_ (G R_) Tryz.prog mox o14 3000 9 a14 v14 e14
theorem o15: @lq_ (G S_) Tryz.prog:=uC_ o14 h14
def a15:List AV:=[.str [105,110]]
def v15:AV:=.tup [.vsl 1 5 [.int .i64 1,.str [105,110],.int .i64 0,.flt .f64 0,.int .i64 0],.int .i64 0,.bool true]
theorem e15: @uy_ (G S_) Tryz.prog 3000 23 a15 v15=true:=by kernel_rfl
def T_:List (FuncId×List AV×AV):=(23,a15,v15)::S_
theorem h15: @hR_ (G S_) Tryz.prog 23 a15 v15:= @uR_ (G S_) Tryz.prog mox o15 3000 23 a15 v15 e15
theorem o16: @lq_ (G T_) Tryz.prog:=uC_ o15 h15
def a16:List AV:=[.str [105,110]]
def v16:AV:=.tup [.agg [.nsl,.nsl],.int .i64 2,.bool false]
theorem e16: @uy_ (G T_) Tryz.prog 3000 12 a16 v16=true:=by kernel_rfl
def U_:List (FuncId×List AV×AV):=(12,a16,v16)::T_
theorem h16: @hR_ (G T_) Tryz.prog 12 a16 v16:= @uR_ (G T_) Tryz.prog mox o16 3000 12 a16 v16 e16
theorem o17: @lq_ (G U_) Tryz.prog:=uC_ o16 h16
def a17:List AV:=[.str [105,110],.int .i64 100]
def v17:AV:=.tup [.agg [.nsl,.nsl,.nsl,.nsl,.int .i64 0,.nsl,.int .i64 0,.nsl,.nsl,.int .i64 0,.int .i64 0,.bool false,.int .i64 0,.int .i64 0,.int .i64 0,.int .i64 0,.nsl,.nsl,.nsl],.int .i64 2,.int .i64 2]
theorem e17: @uy_ (G U_) Tryz.prog 3000 6 a17 v17=true:=by kernel_rfl
def V_:List (FuncId×List AV×AV):=(6,a17,v17)::U_
theorem h17: @hR_ (G U_) Tryz.prog 6 a17 v17:= @uR_ (G U_) Tryz.prog mox o17 3000 6 a17 v17 e17
theorem o18: @lq_ (G V_) Tryz.prog:=uC_ o17 h17
def a18:List AV:=[.agg [VARS2,BODY2,VARS2,CODE2,.int .i64 100,.vsl 9 3 [.int .i64 2,.int .i64 0,.flt .f64 0,.int .i64 1,.int .i64 0,.flt .f64 0,.int .i64 2,.int .i64 1,.flt .f64 0,.int .i64 2,.int .i64 0,.flt .f64 0,.int .i64 2,.int .i64 0,.flt .f64 0,.int .i64 5,.int .i64 0,.flt .f64 0,.int .i64 2,.int .i64 0,.flt .f64 0,.int .i64 2,.int .i64 0,.flt .f64 0,.int .i64 2,.int .i64 0,.flt .f64 0],.int .i64 0,.nsl,.nsl,.int .i64 0,.int .i64 0,.bool true,.int .i64 0,.int .i64 0,.int .i64 0,.int .i64 0,SESS0,.nsl,.vsl 9 3 [.int .i64 2,.int .i64 0,.flt .f64 0,.int .i64 1,.int .i64 0,.flt .f64 0,.int .i64 2,.int .i64 1,.flt .f64 0,.int .i64 2,.int .i64 0,.flt .f64 0,.int .i64 2,.int .i64 0,.flt .f64 0,.int .i64 5,.int .i64 0,.flt .f64 0,.int .i64 2,.int .i64 0,.flt .f64 0,.int .i64 2,.int .i64 0,.flt .f64 0,.int .i64 2,.int .i64 0,.flt .f64 0]]]
def v18:AV:=.bool true
theorem e18: @uy_ (G V_) Tryz.prog 3000 10 a18 v18=true:=by kernel_rfl
def W_:List (FuncId×List AV×AV):=(10,a18,v18)::V_
theorem h18: @hR_ (G V_) Tryz.prog 10 a18 v18:= @uR_ (G V_) Tryz.prog mox o18 3000 10 a18 v18 e18
theorem o19: @lq_ (G W_) Tryz.prog:=uC_ o18 h18
def a19:List AV:=[.agg [VARS2,BODY2,VARS2,CODE2,.int .i64 100,.vsl 9 3 [.int .i64 2,.int .i64 0,.flt .f64 0,.int .i64 1,.int .i64 0,.flt .f64 0,.int .i64 2,.int .i64 1,.flt .f64 0,.int .i64 2,.int .i64 0,.flt .f64 0,.int .i64 2,.int .i64 0,.flt .f64 0,.int .i64 5,.int .i64 0,.flt .f64 0,.int .i64 2,.int .i64 0,.flt .f64 0,.int .i64 2,.int .i64 0,.flt .f64 0,.int .i64 2,.int .i64 0,.flt .f64 0],.int .i64 0,.nsl,.vsl 9 3 [.int .i64 2,.int .i64 0,.flt .f64 0,.int .i64 1,.int .i64 0,.flt .f64 0,.int .i64 2,.int .i64 1,.flt .f64 0,.int .i64 2,.int .i64 0,.flt .f64 0,.int .i64 2,.int .i64 0,.flt .f64 0,.int .i64 5,.int .i64 0,.flt .f64 0,.int .i64 2,.int .i64 0,.flt .f64 0,.int .i64 2,.int .i64 0,.flt .f64 0,.int .i64 2,.int .i64 0,.flt .f64 0],.int .i64 0,.int .i64 0,.bool false,.int .i64 0,.int .i64 0,.int .i64 0,.int .i64 0,SESS0,.nsl,.vsl 9 3 [.int .i64 2,.int .i64 0,.flt .f64 0,.int .i64 1,.int .i64 0,.flt .f64 0,.int .i64 2,.int .i64 1,.flt .f64 0,.int .i64 2,.int .i64 0,.flt .f64 0,.int .i64 2,.int .i64 0,.flt .f64 0,.int .i64 5,.int .i64 0,.flt .f64 0,.int .i64 2,.int .i64 0,.flt .f64 0,.int .i64 2,.int .i64 0,.flt .f64 0,.int .i64 2,.int .i64 0,.flt .f64 0]]]
def v19:AV:=.bool false
theorem e19: @uy_ (G W_) Tryz.prog 3000 10 a19 v19=true:=by kernel_rfl
def X_:List (FuncId×List AV×AV):=(10,a19,v19)::W_
theorem h19: @hR_ (G W_) Tryz.prog 10 a19 v19:= @uR_ (G W_) Tryz.prog mox o19 3000 10 a19 v19 e19
theorem o20: @lq_ (G X_) Tryz.prog:=uC_ o19 h19
def a20:List AV:=[.agg [VARS2,BODY2,VARS2,CODE2,.int .i64 100,.vsl 9 3 [.int .i64 2,.int .i64 0,.flt .f64 0,.int .i64 1,.int .i64 0,.flt .f64 0,.int .i64 2,.int .i64 1,.flt .f64 0,.int .i64 2,.int .i64 0,.flt .f64 0,.int .i64 2,.int .i64 0,.flt .f64 0,.int .i64 5,.int .i64 0,.flt .f64 0,.int .i64 2,.int .i64 0,.flt .f64 0,.int .i64 2,.int .i64 0,.flt .f64 0,.int .i64 2,.int .i64 0,.flt .f64 0],.int .i64 0,.nsl,.nsl,.int .i64 0,.int .i64 0,.bool true,.int .i64 0,.int .i64 0,.int .i64 0,.int .i64 0,SESS0,.nsl,.vsl 9 3 [.int .i64 2,.int .i64 0,.flt .f64 0,.int .i64 1,.int .i64 0,.flt .f64 0,.int .i64 2,.int .i64 1,.flt .f64 0,.int .i64 2,.int .i64 0,.flt .f64 0,.int .i64 2,.int .i64 0,.flt .f64 0,.int .i64 5,.int .i64 0,.flt .f64 0,.int .i64 2,.int .i64 0,.flt .f64 0,.int .i64 2,.int .i64 0,.flt .f64 0,.int .i64 2,.int .i64 0,.flt .f64 0]]]
def v20:AV:=.agg [VARS2,BODY2,VARS2,CODE2,.int .i64 100,.vsl 9 3 [.int .i64 2,.int .i64 0,.flt .f64 0,.int .i64 1,.int .i64 0,.flt .f64 0,.int .i64 2,.int .i64 1,.flt .f64 0,.int .i64 2,.int .i64 0,.flt .f64 0,.int .i64 2,.int .i64 0,.flt .f64 0,.int .i64 5,.int .i64 0,.flt .f64 0,.int .i64 2,.int .i64 0,.flt .f64 0,.int .i64 2,.int .i64 0,.flt .f64 0,.int .i64 2,.int .i64 0,.flt .f64 0],.int .i64 0,.nsl,.vsl 9 3 [.int .i64 2,.int .i64 0,.flt .f64 0,.int .i64 1,.int .i64 0,.flt .f64 0,.int .i64 2,.int .i64 1,.flt .f64 0,.int .i64 2,.int .i64 0,.flt .f64 0,.int .i64 2,.int .i64 0,.flt .f64 0,.int .i64 5,.int .i64 0,.flt .f64 0,.int .i64 2,.int .i64 0,.flt .f64 0,.int .i64 2,.int .i64 0,.flt .f64 0,.int .i64 2,.int .i64 0,.flt .f64 0],.int .i64 0,.int .i64 0,.bool false,.int .i64 0,.int .i64 0,.int .i64 0,.int .i64 0,SESS0,.nsl,.vsl 9 3 [.int .i64 2,.int .i64 0,.flt .f64 0,.int .i64 1,.int .i64 0,.flt .f64 0,.int .i64 2,.int .i64 1,.flt .f64 0,.int .i64 2,.int .i64 0,.flt .f64 0,.int .i64 2,.int .i64 0,.flt .f64 0,.int .i64 5,.int .i64 0,.flt .f64 0,.int .i64 2,.int .i64 0,.flt .f64 0,.int .i64 2,.int .i64 0,.flt .f64 0,.int .i64 2,.int .i64 0,.flt .f64 0]]
theorem e20: @uy_ (G X_) Tryz.prog 3000 8 a20 v20=true:=by kernel_rfl
def l21:List (FuncId×List AV×AV):=(8,a20,v20)::X_
theorem h20: @hR_ (G X_) Tryz.prog 8 a20 v20:= @uR_ (G X_) Tryz.prog mox o20 3000 8 a20 v20 e20
theorem o21: @lq_ (G l21) Tryz.prog:=uC_ o20 h20
end Beg
theorem k5:hR_ Tryz.prog 5 [] (.bool true):= @uR_ (Beg.G Beg.l21) Tryz.prog mox Beg.o21 3000 5 [] (.bool true) (by kernel_rfl)
def C0:List AV:=match Beg.v12 with
 | .tup (.agg c::_)=>c
 |_=>[]
def x0:SS:=⟨0,0,0,1,0,some 0,0,1,0,some 0,0,none⟩
theorem k6:hR_ Tryz.prog 6 Beg.a12 (.tup [.agg C0,jI 0,jI 0]):=Beg.h12
theorem k8:hR_ Tryz.prog 8 [.agg C0] (.agg (enc x0)):=Beg.h20
end Go.Proofs.YtaamplmpnmegdaaGreatDoor.vars
set_option maxRecDepth 100000
set_option linter.unusedVariables false
set_option linter.unusedSimpArgs false
namespace Go.Proofs.YtaamplmpnmegdaaGreatDoor.vars
open Go Go.Sx
def c3:VC:=⟨⟨[],[]⟩,[(5,[none]),(6,[(some 19),none,none]),(8,[(some 19)]),(9,[(some 19),(some 2)]),(10,[none]),(11,[none])],[(0,[⟨[(3,.ptr 0 0),(0,64),(6,.slx 0 0 0)],[(0,[.slx 1 0 0,.slx 2 0 0,.slx 3 0 0,.slx 4 0 0,.slx 5 0 0,.slx 6 0 0,.slx 7 0 0,.slx 8 0 0,.slx 9 0 0,.slx 10 0 0,.slx 11 0 0,.slx 12 0 0,.slx 13 0 0,.slx 14 0 0,.slx 15 0 0,.slx 16 0 0,.slx 17 0 0,.slx 18 0 0,.slx 19 0 0])],1,20,[],[],[]⟩]),(2,[⟨[(6,112),(3,.ptr 0 0),(0,64),(7,118),(8,.slx 0 0 0)],[(0,[.slx 1 0 0,.slx 2 0 0,.slx 3 0 0,.slx 4 0 0,.slx 5 0 0,.slx 6 0 0,.slx 7 0 0,.slx 8 0 0,.slx 9 0 0,.slx 10 0 0,.slx 11 0 0,.slx 12 0 0,.slx 13 0 0,.slx 14 0 0,.slx 15 0 0,.slx 16 0 0,.slx 17 0 0,.slx 18 0 0,.slx 19 0 0])],1,20,[],[],[]⟩])],0,true,[]⟩
def t3:VT:=
 (.call 5 [] 65 [none]
 (K Q3 [65] 66
 (.ite 66
 (.done (.bool false))
 (K (.len 22) [64] 67
 (K Qe [67,J 12] 68
 (.ite 68
 (.done (.bool true))
 (.call 6 [.str [105,110,32,97,32,58,32,105,110,116,59,32,105,110,32,98,32,58,32,98,111,111,108,59,32,111,117,116,32,111,32,58,32,105,110,116,32,58,61,32,49,44,32,57,59,32,118,97,114,32,110,32,58,32,105,110,116,59,32,118,97,114,32,120,32,58,32,105,110,116,59,32,118,97,114,32,114,32,58,32,114,101,97,108,59,32,118,97,114,32,107,32,58,32,105,110,116,91,51,93,59,32,110,32,58,61,32,110,32,43,32,49,59,32,111,32,58,61,32,120,32,43,32,97,59,32,105,102,32,98,32,116,104,101,110,32,107,91,120,93,32,58,61,32,97,59,32,101,110,100,32,114,32,58,61,32,114,32,43,32,48,46,53,59],J 100] 69 [(some 19),none,none]
 (K Q0 [89,J 0] 90
 (.ite 90
 (.done (.bool false))
 (K (.len 29) [74] 91
 (K Q9 [91,J 9] 92
 (.ite 92
 (.done (.bool false))
 (.call 8 [.agg [69,70,71,72,73,74,75,76,77,78,79,80,81,82,83,84,85,86,87]] 93 [(some 19)]
 (.loop 112 0 [J 0,93,94,95,96,97,98,99,100,101,102,103,104,105,106,107,108,109,110,111]
 (.cons 20
 (K (.len 22) [64] 132
 (K Qa [112,132] 133
 (.ite 133
 (K Q4 [64,112] 134
 (K Q5 [134,J 0] 135
 (K Q6 [135] 136
 (K Qb [136] 137
 (.call 9 [.agg [113,114,115,116,117,118,119,120,121,122,123,124,125,126,127,128,129,130,131],.agg [J 8,J 0,J 0,.nsl,J 2,137,.flt .f64 0]] 138 [(some 19),(some 2)]
 (.loop 159 0 [J 0,138,139,140,141,142,143,144,145,146,147,148,149,150,151,152,153,154,155,156]
 (.cons 20
 (K Q4 [64,112] 179
 (K Q5 [179,J 1] 180
 (K Q6 [180] 181
 (K (.bin .rem 5 false true) [181,.int .u8 10] 182
 (K (.conv 5 3) [182] 183
 (K Qa [159,183] 184
 (.ite 184
 (.call 10 [.agg [160,161,162,163,164,165,166,167,168,169,170,171,172,173,174,175,176,177,178]] 185 [none]
 (.ite 185
 (.call 8 [.agg [160,161,162,163,164,165,166,167,168,169,170,171,172,173,174,175,176,177,178]] 186 [(some 19)]
 (K (.len 29) [191] 205
 (K Q9 [205,J 9] 206
 (.ite 206
 (.done (.bool false))
 (K (.iaddr 29) [191,J 0] 207
 (K (.faddr 51 1) [207] 208
 (K (.load 2) [208] 209
 (K Q4 [64,112] 210
 (K Q5 [210,J 0] 211
 (K Q6 [211] 212
 (K Qb [212] 213
 (K Qi [209,213] 214
 (.ite 214
 (.done (.bool false))
 (K Q1 [112,J 1] 215
 (.again 0 0 [215,186,187,188,189,190,191,192,193,194,195,196,197,198,199,200,201,202,203,204])))))))))))))))
 (.call 11 [165,118] 186 [none]
 (K Q3 [186] 187
 (.ite 187
 (.done (.bool false))
 (.call 9 [.agg [160,161,162,163,164,165,166,167,168,169,170,171,172,173,174,175,176,177,178],.agg [J 1,J 0,J 0,.nsl,J 0,J 0,.flt .f64 0]] 188 [(some 19),(some 2)]
 (K Q1 [159,J 1] 209
 (.again 1 0 [209,188,189,190,191,192,193,194,195,196,197,198,199,200,201,202,203,204,205,206]))))))))
 (.call 8 [.agg [160,161,162,163,164,165,166,167,168,169,170,171,172,173,174,175,176,177,178]] 185 [(some 19)]
 (K (.len 29) [190] 204
 (K Q9 [204,J 9] 205
 (.ite 205
 (.done (.bool false))
 (K (.iaddr 29) [190,J 0] 206
 (K (.faddr 51 1) [206] 207
 (K (.load 2) [207] 208
 (K Q4 [64,112] 209
 (K Q5 [209,J 0] 210
 (K Q6 [210] 211
 (K Qb [211] 212
 (K Qi [208,212] 213
 (.ite 213
 (.done (.bool false))
 (K Q1 [112,J 1] 214
 (.again 0 0 [214,185,186,187,188,189,190,191,192,193,194,195,196,197,198,199,200,201,202,203]))))))))))))))))))))))
 .nil)))))))
 (.done (.bool true)))))
 .nil)))))))))))))))
theorem doI (x:SS) (h:x.p=0) {v:Int} (h0:0<=v) (h1:v<=255):hR_ Tryz.prog 9 [.agg (enc x),i_ (jI v)] (.tup [.agg (enc { x with i:=v }),D0]):=by obtain ⟨p,i,a,o,n,r,N,mo,mn,mr,s,f⟩:=x;have h:p=0:=h;subst h;exact dI v h0 h1 i a o n N mo mn r mr s
section
variable {l:List (UInt8×UInt8)} {x:AV}
theorem z_ (h:SlV b_ 2 l x) {i:Nat} (hi:i<l.length):(XOp.iaddr 22).run Tryz.prog [x,.int .i64 (i:Int)]=some (.vptr (.int .u8 (l[i].1.toNat:Int)::.int .u8 (l[i].2.toNat:Int)::h6_ b_ (l.drop (i+1)))):=by rw [h.ia (e:=48) Tryz.underlying22 (ti:=(Tryz.prog.info? 48).get!) (by kernel_rfl) (by kernel_rfl) Y_ hi .i64,List.drop_eq_getElem_cons hi];rfl
theorem J_ (i:Nat):okL (h6_ b_ (l.drop i))=true:=ok_ F_ _
end
theorem m_ (a b:AV) (r:List AV):(XOp.iaddr 48).run Tryz.prog [.vptr (a::b::r),.int .i64 0]=some (.vptr (a::b::r)):=by kernel_rfl
theorem A_ (a b:AV) (r:List AV):(XOp.iaddr 48).run Tryz.prog [.vptr (a::b::r),.int .i64 1]=some (.vptr (b::r)):=by kernel_rfl
theorem ld5 (a:AV) (r:List AV):(XOp.load 5).run Tryz.prog [.vptr (a::r)]=some a:=sJ_ Tryz.underlying5 rfl _ _
theorem v_ (c:UInt8):(XOp.conv 5 2).run Tryz.prog [.int .u8 (c.toNat:Int)]=some (.int .i64 (c.toNat:Int)):=by have:=UInt8.toNat_lt c;rw [tn_ Tryz.underlying5 Tryz.underlying2,vh_ (by omega) (by omega)]
theorem M_ (n:Nat) (h:n<256):(XOp.conv 5 3).run Tryz.prog [.int .u8 (n:Int)]=some (.int .i64 (n:Int)):=by rw [tn_ Tryz.underlying5 Tryz.underlying3,vh_ (by omega) (by omega)]
theorem d8_ (c:UInt8):(XOp.bin .rem 5 false true).run Tryz.prog [.int .u8 (c.toNat:Int),.int .u8 10]=some (.int .u8 ((c.toNat%10:Nat):Int)):=by rw [uH_ (by decide)];rfl
theorem w_ (cs:List AV):(XOp.len 29).run Tryz.prog [.vsl 9 3 cs]=some (.int .i64 9):=by kernel_rfl
theorem tI_ (a o n r:AV):(XOp.iaddr 29).run Tryz.prog [.vsl 9 3 (e_ a o n r),.int .i64 0]=some (.vptr (e_ a o n r)):=by kernel_rfl
theorem s9_ (a o n r:AV):(XOp.faddr 51 1).run Tryz.prog [.vptr (e_ a o n r)]=some (.vptr (a::(e_ a o n r).drop 2)):=by kernel_rfl
theorem ld2 (a:AV) (r:List AV):(XOp.load 2).run Tryz.prog [.vptr (a::r)]=some a:=sJ_ Tryz.underlying2 rfl _ _
structure As (x z:SS):Prop where
 i:z.i=x.i
 a:z.a=x.a
 o:z.o=x.o
 n:z.n=x.n
 r:z.r=x.r
theorem As.nx {x z:SS} (h:As x z) (hp:z.p<=13):As x (nx z):=by obtain ⟨e1,e2,e3,e4⟩:=B_ hp;exact ⟨(Z_ z).trans h.i,e1.trans h.a,e2.trans h.o,e3.trans h.n,e4.trans h.r⟩
theorem As.same {x z:SS} (h:As x z):hR_ Tryz.prog 11 [.vsl 9 3 (e_ (jI z.a) (jI z.o) (jI z.n) (fv z.r)),.vsl 9 3 (e_ (jI x.a) (jI x.o) (jI x.n) (fv x.r))] (.bool true):=by rw [h.a,h.o,h.n,h.r];exact p11 _ _ _ _
theorem K_ {p:Nat} (h:p<=14):Nat.beq p 15=false:=by
 cases hb:Nat.beq p 15 with
 |false=>rfl
 |true=>have:=Nat.eq_of_beq_eq_true hb;omega
theorem t4_:okL (C0++[jI 0,jI 0])=true:=by kernel_rfl
theorem q3 {l:List (UInt8×UInt8)} {x:AV} (hs:SlV b_ 2 l x):hR_ Tryz.prog 3 [x] (.bool true):=by
 have hA:=hs.ok F_;refine tN_ (sh:=[none]) (ls:=[x]) (c:=c3) (n:=300) (t:=t3) mox ov rfl (by simp only [okL,hA]) rfl (λY _=>u8_ _) rfl (by kernel_rfl) λY hf hg=>?_;unfold t3;refine uh_ k5 rfl rfl (u1_ (uW_ ..) rfl (uP_ (t:=false) rfl (λh=>by cases h) (λ_=>?_)));refine u1_ (hs.len Tryz.underlying22) rfl (u1_ (run_gtr ..) rfl (uP_ rfl (λ_=>ui_ rfl) (λhl=>?_)));have hl:l.length<=12:=by have:=of_decide_eq_false hl;omega
 refine uh_ (vs:=C0++[jI 0,jI 0]) k6 rfl t4_ (u1_ (run_neq ..) rfl (uP_ (t:=false) rfl (λh=>by cases h) (λ_=>?_)));refine u1_ (w_ _) rfl (u1_ (run_neq ..) rfl (uP_ (t:=false) rfl (λh=>by cases h) (λ_=>?_)));refine uh_ (vs:=enc x0++[]) k8 rfl (by rw [List.append_nil];exact c_ x0) ?_;refine uj_ (ι:=Nat×SS) (λq=>jI (q.1:Int)::enc q.2) (λq=>q.1<=l.length/\q.2.p=0) (λq=>l.length-q.1) (0,x0) ⟨Nat.zero_le _,rfl⟩ rfl (λq _=>c_ q.2) (λq q' _ _ h=>by
  have h:=(List.cons.inj h).1;injection h with _ h
  show l.length-q.1=l.length-q'.1;omega) (λq hq=>?_)
 obtain ⟨k,y⟩:=q;obtain ⟨hk,hp⟩:=hq;have hk:k<=l.length:=hk;have hp:y.p=0:=hp;refine u1_ (hs.len Tryz.underlying22) rfl (u1_ (run_lss ..) rfl (uP_ rfl (λhlt=>?_) (λ_=>ui_ rfl)));have hlt:k<l.length:=by have:=of_decide_eq_true hlt;omega
 have hv0:(0:Int)<=(l[k].1.toNat:Int):=by omega
 have hv1:((l[k].1.toNat:Nat):Int)<=255:=by have:=UInt8.toNat_lt l[k].1;omega
 refine u1_ (z_ hs hlt) (J_ _) (u1_ (m_ ..) (J_ _) (u1_ (ld5 ..) rfl (u1_ (v_ _) rfl (uh_ (doI y hp hv0 hv1) rfl (ok_.okL_join (c_ _) rfl) ?_))))
 refine uj_ (ι:=Nat×SS) (λq=>jI (q.1:Int)::enc q.2) (λq=>q.1<=9/\q.2.p=q.1/\As { y with i:=(l[k].1.toNat:Int) } q.2) (λq=>9-q.1) (0,{ y with i:=(l[k].1.toNat:Int) }) ⟨Nat.zero_le _,hp,⟨rfl,rfl,rfl,rfl,rfl⟩⟩ rfl (λq _=>c_ q.2) (λq q' _ _ h=>by
  have h:=(List.cons.inj h).1;injection h with _ h
  show 9-q.1=9-q'.1;omega) (λq hq=>?_)
 obtain ⟨j,z⟩:=q;obtain ⟨hj,hz,hA2⟩:=hq;have hj:j<=9:=hj;have hz:z.p=j:=hz;have hA2:As { y with i:=(l[k].1.toNat:Int) } z:=hA2;have hm:l[k].2.toNat%10<10:=Nat.mod_lt _ (by decide);refine u1_ (z_ hs hlt) (J_ _) (u1_ (A_ ..) (J_ _) (u1_ (ld5 ..) rfl (u1_ (d8_ _) rfl (u1_ (M_ _ (by omega)) rfl (u1_ (run_lss ..) rfl (uP_ rfl (λhjl=>?_) (λ_=>?_)))))));have hjl:j<9:=(by have:=of_decide_eq_true hjl;omega);refine uh_ (p10 z) rfl rfl (uP_ (t:=false) (congrArg (λb=>some (AV.bool b)) (K_ (by omega))) (λh=>by cases h) (λ_=>?_));refine uh_ hA2.same rfl rfl (u1_ (uW_ ..) rfl (uP_ (t:=false) rfl (λh=>by cases h) (λ_=>?_)));refine uh_ (doM z (by omega)) rfl (ok_.okL_join (c_ _) rfl) (u1_ (run_add ..) rfl (t7_ rfl ?_));refine ⟨(j+1,nx z),⟨?_,?_,hA2.nx (by omega)⟩,?_,?_⟩;show j+1<=9;omega;show (nx z).p=j+1;rw [o_ (by omega),hz];show jI (IntKind.i64.wrap ((j:Int)+1))::enc (st z)=jI ((j+1:Nat):Int)::enc (nx z);rw [h_ (by omega),n_ (by omega)];show 9-(j+1)<9-j;omega;refine uh_ (p8 z (by omega)) rfl (by rw [List.append_nil];exact c_ _) (u1_ (w_ _) rfl (u1_ (run_neq ..) rfl (uP_ (t:=false) rfl (λh=>by cases h) (λ_=>?_))));have e:(a_ z).a=(l[k].1.toNat:Int):=(H_ z).trans hA2.i;have hcl:=f_ (a:=jI (a_ z).a) (o:=jI (a_ z).o) (n:=jI (a_ z).n) rfl rfl rfl (vl_ (a_ z).r);refine u1_ (tI_ ..) hcl (u1_ (s9_ ..) hcl (u1_ (ld2 ..) rfl (u1_ (z_ hs hlt) (J_ _) (u1_ (m_ ..) (J_ _) (u1_ (ld5 ..) rfl (u1_ (v_ _) rfl (u1_ (run_neq ..) rfl (uP_ rfl (λh=>?_) (λ_=>u1_ (run_add ..) rfl (t7_ rfl ?_))))))))));have h:(!decide ((a_ z).a=(l[k].1.toNat:Int)))=true:=h;rw [decide_eq_true e]at h;cases h;refine ⟨(k+1,a_ z),⟨hlt,I_ z⟩,?_,?_⟩;show jI (IntKind.i64.wrap ((k:Int)+1))::enc (a_ z)=jI ((k+1:Nat):Int)::enc (a_ z);rw [n_ (by omega)];show l.length-(k+1)<l.length-k;omega
end Go.Proofs.YtaamplmpnmegdaaGreatDoor.vars
