/-
  A symbol as a number, a number as a value: short names for trees.
-/
import Derived.Test.YtjconanknjgpnaaSyQ
import Derived.Test.YtjconanknjgpnaaRows
import Derived.KernelRfl
import Derived.Test.YtjconanknjgpnaaSyU
import Derived.Test.YtjconanknjgpnaaSyG
namespace Go.Proofs.Ytjconanknjgpnaa.vars
open Go Go.Sx
instance symN (n:Nat):OfNat AV n:=⟨.sym n⟩
abbrev J (n:Int):AV:=.int .i64 n
end Go.Proofs.Ytjconanknjgpnaa.vars
set_option linter.unusedVariables false
namespace Go.Proofs.Ytjconanknjgpnaa.vars
open Go Go.Sx
def hs:Nat->Nat->List AV
 |_,0=>[]
 |j,n+1=>.slx j 0 0::hs (j+1) n
def pk (a b:AV):Nat×List AV:=(0,[a,b])
def ft64:FT:=⟨1,⟨[(0,.ptr 0 0),(1,.slx 2 0 0)],[pk (.slx 0 0 0) (.slx 1 0 0)],1,3,[],[],[]⟩,[(false,⟨[(0,.slx 0 0 0)],[pk (.sym 64) (.slx 1 0 0)],1,2,[],[],[]⟩)]⟩
def ftX:FT:=⟨1,⟨[(0,.ptr 0 0),(1,.slx 2 0 0),(2,.slx 3 0 0)],[pk (.slx 0 0 0) (.slx 1 0 0)],1,4,[],[],[]⟩,[(false,⟨[(0,.agg (hs 0 10))],[pk (.sym 64) (.slx 10 0 0)],1,11,[],[],[]⟩)]⟩
def ft81:FT:=ftX
def ft83:FT:=ftX
def ft65:FT:=⟨1,⟨[(0,.ptr 0 0),(1,.slx 2 0 0)],[pk (.slx 0 0 0) (.slx 1 0 0)],1,3,[],[],[]⟩,[(false,⟨[(0,.agg (hs 0 27))],[pk (.sym 64) (.slx 27 0 0)],1,28,[],[],[]⟩)]⟩
def ft38:FT:=⟨1,⟨[(0,.ptr 0 0),(1,.slx 2 0 0),(2,.slx 3 0 0)],[pk (.slx 0 0 0) (.slx 1 0 0)],1,4,[],[],[]⟩,[(false,⟨[(0,.slx 1 27 0)],[pk (.sym 64) (.slx 1 0 0)],2,2,[⟨1,27,0,0,none⟩],[],[]⟩)]⟩
def ft19:FT:=⟨1,⟨[(0,.ptr 0 0)],[pk (.slx 0 0 0) (.slx 1 0 0)],1,2,[],[],[]⟩,[(false,⟨[(0,.agg (hs 0 2))],[pk (.sym 64) (.slx 2 0 0)],1,3,[],[],[]⟩)]⟩
def ft18:FT:=⟨0,⟨[(0,.slx 0 0 0)],[],0,1,[],[],[]⟩,[(false,⟨[(0,.ptr 0 0)],[pk (.sym 64) (.int .i64 0)],1,0,[],[],[]⟩)]⟩
def ft80:FT:=⟨0,⟨[(0,.slx 0 0 0),(1,.agg (hs 1 10))],[],0,11,[],[],[]⟩,[(false,⟨[(0,.tup [.agg (hs 0 10),.slx 10 0 0])],[],0,11,[],[],[]⟩)]⟩
def ft90:FT:=ft80
def ft91:FT:=⟨0,⟨[(0,.slx 0 0 0),(1,.agg (hs 1 10)),(2,.slx 11 0 0)],[],0,12,[],[],[]⟩,[(false,⟨[(0,.tup [.agg (hs 0 10),.slx 10 0 0])],[],0,11,[],[],[]⟩)]⟩
def ft63:FT:=⟨0,⟨[(0,.slx 0 0 0),(1,.agg (hs 1 27))],[],0,28,[],[],[]⟩,[(false,⟨[(0,.tup [.agg (hs 0 27),.slx 27 0 0])],[],0,28,[],[],[]⟩)]⟩
def ft78:FT:=ft63
def ft79:FT:=ft63
def ft36:FT:=⟨0,⟨[(0,.slx 0 0 0),(1,.slx 1 0 0)],[],0,2,[],[],[]⟩,[(false,⟨[(0,.tup [.slx 0 0 0,.slx 1 0 0])],[],0,2,[],[],[]⟩)]⟩
def ft17:FT:=⟨0,⟨[(0,.agg (hs 0 2))],[],0,2,[],[],[]⟩,[(false,⟨[(0,.tup [.agg (hs 0 2),.slx 2 0 0])],[],0,3,[],[],[]⟩)]⟩
def ft7:FT:=⟨0,⟨[(0,.slx 0 0 0)],[],0,1,[],[],[]⟩,[(false,⟨[(0,.tup [.agg (hs 0 2),.slx 2 0 0])],[],0,3,[],[],[]⟩)]⟩
def ft22:FT:=⟨1,⟨[(0,.ptr 0 0),(1,.agg (hs 1 7))],[(0,[.slx 1 7 0])],2,8,[⟨1,7,0,0,some 0⟩],[],[]⟩,[(false,⟨[(0,.slx 0 0 0)],[(0,[.slx 1 7 1])],2,2,[⟨1,7,1,0,some 0⟩],[],[]⟩)]⟩
def ft24:FT:=⟨1,⟨[(0,.ptr 0 0),(1,.agg (hs 1 10))],[(0,[.slx 1 7 0])],2,11,[⟨1,7,0,0,some 0⟩],[],[]⟩,[(false,⟨[(0,.tup [])],[(0,[.slx 1 7 0])],2,1,[⟨1,7,0,0,some 0⟩],[],[]⟩)]⟩
def ft39:FT:=⟨1,⟨[(0,.ptr 0 0),(1,.agg (hs 1 27))],[(0,[.slx 1 7 0])],2,28,[⟨1,7,0,0,some 0⟩],[],[]⟩,[(false,⟨[(0,.tup [])],[(0,[.slx 1 7 0])],2,1,[⟨1,7,0,0,some 0⟩],[],[]⟩)]⟩
def ft40:FT:=ft39
def ft41:FT:=ft39
def ft21:FT:=⟨1,⟨[(0,.ptr 0 0),(1,.slx 1 0 0)],[(0,[.slx 1 7 0])],2,2,[⟨1,7,0,0,some 0⟩],[],[]⟩,[(false,⟨[(0,.tup [])],[(0,[.slx 1 7 0])],2,1,[⟨1,7,0,0,some 0⟩],[],[]⟩)]⟩
end Go.Proofs.Ytjconanknjgpnaa.vars
set_option maxRecDepth 100000
set_option linter.unusedVariables false
set_option linter.unusedSimpArgs false
namespace Go.Proofs.Ytjconanknjgpnaa.vars
open Go Go.Sx
instance gI:Gl:=glT gl0 nr0 []
theorem mo:Try.prog.follows .mixedOrders=true:=by kernel_rfl
theorem ov:OvOk Try.prog:=ov_nil gl0 nr0 _
inductive GX where
 |mk (op kd:Int) (nm fd:List UInt8) (ad n vk vi:Int) (vf:Nat) (args:List GX)
mutual
def encX:GX->List AV
 | .mk op kd nm fd ad n vk vi vf args=>[.int .i64 op,.int .i64 kd,.str nm,.str fd,.int .i64 ad,.int .i64 n,.int .i64 vk,.int .i64 vi,.flt .f64 vf,encA args]
def encA:List GX->AV
 |[]=>.nsl
 |a::r=>.vsl (r.length+1) 10 (encX a++encXs r)
def encXs:List GX->List AV
 |[]=>[]
 |a::r=>encX a++encXs r
end
theorem encXs_eq:∀l:List GX,encXs l=encL encX l
 |[]=>rfl
 |a::r=>by simp only [encXs,encL,encXs_eq r]
theorem encA_eq (l:List GX):encA l=sliceOf encX 10 l:=by
 cases l with
 |nil=>rfl
 |cons a r=>simp only [encA,sliceOf,encL,encXs_eq]
theorem lenX (x:GX):(encX x).length=10:=by cases x;simp [encX]
mutual
theorem okX:∀x:GX,okL (encX x)=true
 | .mk op kd nm fd ad n vk vi vf args=>by simp only [encX,okL,okC,okA args]
theorem okA:∀l:List GX,okC (encA l)=true
 |[]=>rfl
 |a::r=>by simp only [encA,okC];exact encL_ok.okL_join (okX a) (okXs r)
theorem okXs:∀l:List GX,okL (encXs l)=true
 |[]=>rfl
 |a::r=>by simp only [encXs];exact encL_ok.okL_join (okX a) (okXs r)
end
inductive GS where
 |mk (op:Int) (to e:GX) (thn els:List GS) (nm:List UInt8) (kd ad:Int) (args:List GX)
mutual
def encS:GS->List AV
 | .mk op to e thn els nm kd ad args=>.int .i64 op::(encX to++(encX e++[encB thn,encB els,.str nm,.int .i64 kd,.int .i64 ad,encA args]))
def encB:List GS->AV
 |[]=>.nsl
 |a::r=>.vsl (r.length+1) 27 (encS a++encSs r)
def encSs:List GS->List AV
 |[]=>[]
 |a::r=>encS a++encSs r
end
theorem encSs_eq:∀l:List GS,encSs l=encL encS l
 |[]=>rfl
 |a::r=>by simp only [encSs,encL,encSs_eq r]
theorem encB_eq (l:List GS):encB l=sliceOf encS 27 l:=by
 cases l with
 |nil=>rfl
 |cons a r=>simp only [encB,sliceOf,encL,encSs_eq]
theorem lenS (x:GS):(encS x).length=27:=by cases x;simp [encS,lenX]
mutual
theorem okS:∀x:GS,okL (encS x)=true
 | .mk op to e thn els nm kd ad args=>by
   simp only [encS]
   refine encL_ok.okL_join (a:=[_]) rfl (encL_ok.okL_join (okX to) (encL_ok.okL_join (okX e) ?_))
   simp only [okL,okC,okA args,okB thn,okB els]
theorem okB:∀l:List GS,okC (encB l)=true
 |[]=>rfl
 |a::r=>by simp only [encB,okC];exact encL_ok.okL_join (okS a) (okSs r)
theorem okSs:∀l:List GS,okL (encSs l)=true
 |[]=>rfl
 |a::r=>by simp only [encSs];exact encL_ok.okL_join (okS a) (okSs r)
end
def Ari (op:Int) (n:Nat):Prop:=(op=1\/op=2)/\n=0\/(op=3\/op=15\/op=16\/op=17)/\n=1\/(4<=op/\op<=14)/\n=2
def Flt4 (f:Nat):Prop:=f=0\/f=4609434218613702656\/f=4611686018427387904\/f=4598175219545276416
def GX.op:GX->Int| .mk op .. =>op
def GX.kd:GX->Int| .mk _ kd .. =>kd
def loads:List (List UInt8×List UInt8):=[([98],[]),([113],[]),([116,109],[113]),([97],[]),([120],[]),([111],[]),([99],[99,118]),([121],[]),([116,109],[101,116]),([119],[]),([122],[])]
def LitOk (vk vi:Int) (vf:Nat):Prop:=(vk=1\/vk=3\/vk=4\/vk=5)/\0<=vi/\vi<50/\(vk=1->vi<=1)/\(vk=5->vi=0)/\(vk≠5->vf=0)
def Nod (op kd:Int) (nm fd:List UInt8) (vk vi:Int) (vf:Nat):Prop:=(op=1->LitOk vk vi vf)/\(op=2->(nm,fd)∈loads)/\(op=3->nm=[107])/\(op=17->2<=kd/\kd<=5)
def WX:Nat->GX->Prop
 |0,_=>False
 |d+1,.mk op kd nm fd _ _ vk vi vf args=>Ari op args.length/\Flt4 vf/\Nod op kd nm fd vk vi vf/\∀a∈args,WX d a
theorem WX_mono:∀{d e:Nat} {x:GX},d<=e->WX d x->WX e x
 |0,_,_,_,h=>h.elim
 |d+1,0,_,h,_=>by omega
 |d+1,e+1,.mk ..,h,⟨h1,h2,h3,h4⟩=>⟨h1,h2,h3,λa ha=>WX_mono (by omega) (h4 a ha)⟩
def WS:Nat->GS->Prop
 |0,_=>False
 |d+1,.mk op to e thn els nm kd ad args=>
  (op=1/\WX 5 to/\(to.op=2\/to.op=3)/\WX 5 e)\/
  ((op=2\/op=3)/\WX 5 e/\thn.length<=5/\els.length<=5/\(∀s∈thn,WS d s)/\∀s∈els,WS d s)\/
  (op=4/\(nm=[116,109]\/nm=[99]\/nm=[101])/\args.length<=2/\∀a∈args,WX 5 a)
def encC (c:UInt8):List AV:=[.int .u8 (c.toNat:Int)]
theorem lenC (c:UInt8):(encC c).length=1:=rfl
theorem okC8 (c:UInt8):okL (encC c)=true:=rfl
def Pk (l:List UInt8) (a:AV):Prop:=SlV encC 1 l a/\l.length<=9223372036854775807
section
variable {l:List UInt8} {a:AV}
theorem len22 (h:Pk l a):(XOp.len 22).run Try.prog [a]=some (.int .i64 (l.length:Int)):=h.1.len Try.underlying22
theorem ia22 (h:Pk l a) {i:Nat} (hi:i<l.length) {k:IntKind}:(XOp.iaddr 22).run Try.prog [a,.int k (i:Int)]=some (.vptr (encL encC (l.drop i))):=h.1.ia (e:=5) Try.underlying22 (ti:=(Try.prog.info? 5).get!) (by kernel_rfl) (by kernel_rfl) lenC hi k
theorem ld5 {i:Nat} (hi:i<l.length):(XOp.load 5).run Try.prog [.vptr (encL encC (l.drop i))]=some (.int .u8 (l[i].toNat:Int)):=by
 rw [List.drop_eq_getElem_cons hi]
 exact run_load_one Try.underlying5 rfl _ _
end
theorem cv5_3 (n:Nat) (h:n<256):(XOp.conv 5 3).run Try.prog [.int .u8 (n:Int)]=some (.int .i64 (n:Int)):=by
 rw [run_conv_ii Try.underlying5 Try.underlying3,wrap64 (by omega) (by omega)]
theorem run_rem (x m:Nat) (h:0<m) (h2:m<9223372036854775808) (t:TypeId) (cx cy:Bool):(XOp.bin .rem t cx cy).run Try.prog [.int .i64 (x:Int),.int .i64 (m:Int)]=some (.int .i64 ((x%m:Nat):Int)):=by
 have:(x:Int).tmod (m:Int)=((x%m:Nat):Int):=by
  rw [Int.tmod_eq_emod_of_nonneg (by omega)];rfl
 show evBin Try.prog .rem t cx cy (.int .i64 (x:Int)) (.int .i64 (m:Int))=_
 exact rem_run (by omega) this t cx cy
theorem add_c {x y:Int} {t:TypeId} {cx cy:Bool} (h1: -9223372036854775807<=x+y) (h2:x+y<=9223372036854775807):(XOp.bin .add t cx cy).run Try.prog [.int .i64 x,.int .i64 y]=some (.int .i64 (x+y)):=by
 rw [run_add,wrap64 (by omega) (by omega)]
theorem sub_c {x y z:Int} {t:TypeId} {cx cy:Bool} (h:x-y=z) (h1: -9223372036854775807<=z) (h2:z<=9223372036854775807):(XOp.bin .sub t cx cy).run Try.prog [.int .i64 x,.int .i64 y]=some (.int .i64 z):=by
 rw [run_sub,h,wrap64 (by omega) (by omega)]
def RN (l:List UInt8) (m:Nat):Nat->List AV->Prop:=λ_ ws=>∃v n:Nat,ws=[.int .i64 (v:Int),.int .i64 (n:Int)]/\v<m/\n<=l.length
def c64:VC:=⟨⟨[],[]⟩,[],[],1,true,[]⟩
def t64:VT:=
 (.lt (.len 22) [64] 67 none
 (.lt (.bin .geq 3 false false) [65,67] 68 none
 (.ite 68
 (.done (.tup [J 0,J 0,65]))
 (.lt (.bin .add 3 false true) [65,J 1] 69 none
 (.lt (.bin .sub 3 false true) [69,J 1] 70 none
 (.lt (.iaddr 22) [64,70] 71 none
 (.lt (.load 5) [71] 72 none
 (.lt (.conv 5 3) [72] 73 none
 (.lt (.bin .rem 3 false false) [73,66] 74 none
 (.done (.tup [J 0,74,69])))))))))))
theorem p64 {l:List UInt8} {a:AV} {n m:Nat} (h:Pk l a) (hn:n<=l.length) (hm:0<m) (hm2:m<=1000):CF Try.prog 64 ft64 [a,.int .i64 (n:Int),.int .i64 (m:Int)] (RN l m):=by
 have hb:=h.2
 refine cf_tree (c:=c64) (n:=300) (t:=t64) mo ov rfl (λY _=>known0 _) (by kernel_rfl) λY hf hg=>?_
 unfold t64
 refine VOK_lt (len22 h) rfl (VOK_lt (run_geq ..) rfl (VOK_ite rfl (λh1=>VOK_fin rfl ⟨0,n,rfl,hm,hn⟩) (λh1=>?_)))
 have h1:n<l.length:=by simpa using h1
 refine VOK_lt (add_c (by omega) (by omega)) rfl (VOK_lt (sub_c (z:=n) (by omega) (by omega) (by omega)) rfl (VOK_lt (ia22 h h1) (encL_ok okC8 _) (VOK_lt (ld5 h1) rfl (VOK_lt (cv5_3 _ (UInt8.toNat_lt _)) rfl (VOK_lt (run_rem _ _ hm (by omega) ..) rfl (VOK_fin rfl ⟨l[n].toNat%m,n+1,rfl,Nat.mod_lt _ hm,h1⟩))))))
end Go.Proofs.Ytjconanknjgpnaa.vars
set_option maxRecDepth 100000
set_option linter.unusedVariables false
set_option linter.unusedSimpArgs false
namespace Go.Proofs.Ytjconanknjgpnaa.vars
open Go Go.Sx
def RI (l:List UInt8) (m:Int):Nat->List AV->Prop:=λ_ ws=>∃v n:Nat,ws=[.int .i64 (v:Int),.int .i64 (n:Int)]/\(v:Int)<m/\n<=l.length
theorem cf_mono {f:FuncId} {ft:FT} {vs:List AV} {R R':Nat->List AV->Prop} (h:CF Try.prog f ft vs R) (hr:∀j ws,R j ws->R' j ws):CF Try.prog f ft vs R':=
 ⟨h.1,λY hf B pr E w us h1 h2 h3 h4=>(h.2 Y hf B pr E w us h1 h2 h3 h4).mono λe w' ⟨Y',r,⟨j,ws,b,tp,q1,q2,q3⟩,hp⟩=>⟨Y',r,⟨j,ws,b,tp,q1,hr _ _ q2,q3⟩,hp⟩⟩
theorem p64i {l:List UInt8} {a:AV} {n:Nat} {m:Int} (h:Pk l a) (hn:n<=l.length) (hm:0<m) (hm2:m<=1000):CF Try.prog 64 ft64 [a,.int .i64 (n:Int),.int .i64 m] (RI l m):=by
 have e:m=((m.toNat:Nat):Int):=by omega
 have:=p64 h hn (m:=m.toNat) (by omega) (by omega)
 rw [←e]at this
 exact cf_mono this λj ws ⟨v,n,h1,h2,h3⟩=>⟨v,n,h1,by omega,h3⟩
def RX (l:List UInt8) (d:Nat):Nat->List AV->Prop:=λ_ ws=>∃(x:GX) (n:Nat),ws=encX x++[.int .i64 (n:Int)]/\WX (d+1) x/\n<=l.length
def PX (l:List UInt8) (a:AV) (f:FuncId) (d:Nat):Prop:=∀(n:Nat) (k:Int),n<=l.length->1<=k/\k<=5->CF Try.prog f ftX [a,.int .i64 (n:Int),.int .i64 k,.int .i64 (d:Int)] (RX l d)
theorem WX_lit {d:Nat} {kd ad n vk vi:Int} {nm fd:List UInt8} {vf:Nat} (ho:LitOk vk vi vf) (hf:Flt4 vf):WX (d+1) (.mk 1 kd nm fd ad n vk vi vf []):=⟨.inl ⟨.inl rfl,rfl⟩,hf,⟨λ_=>ho,λh=>by omega,λh=>by omega,λh=>by omega⟩,λa ha=>(List.not_mem_nil ha).elim⟩
theorem WX_name {d:Nat} {kd ad n vk vi:Int} {nm fd:List UInt8} (ho:(nm,fd)∈loads):WX (d+1) (.mk 2 kd nm fd ad n vk vi 0 []):=⟨.inl ⟨.inr rfl,rfl⟩,.inl rfl,⟨λh=>by omega,λ_=>ho,λh=>by omega,λh=>by omega⟩,λa ha=>(List.not_mem_nil ha).elim⟩
theorem WX_1 {d:Nat} {op kd ad n vk vi:Int} {nm fd:List UInt8} {x:GX} (ho:op=3/\nm=[107]\/op=15\/op=16\/op=17/\2<=kd/\kd<=5) (h:WX d x):WX (d+1) (.mk op kd nm fd ad n vk vi 0 [x]):=by
 refine ⟨.inr (.inl ⟨by omega,rfl⟩),.inl rfl,⟨λh=>by omega,λh=>by omega,λh=>?_,λh=>by omega⟩,λa ha=>by cases List.mem_singleton.1 ha;exact h⟩
 rcases ho with ho|ho|ho|ho
 ·exact ho.2
 all_goals omega
theorem WX_2 {d:Nat} {op kd ad n vk vi:Int} {nm fd:List UInt8} {x y:GX} (ho:4<=op/\op<=14) (h:WX d x) (h2:WX d y):WX (d+1) (.mk op kd nm fd ad n vk vi 0 [x,y]):=
 ⟨.inr (.inr ⟨ho,rfl⟩),.inl rfl,⟨λh=>by omega,λh=>by omega,λh=>by omega,λh=>by omega⟩,λa ha=>by rcases List.mem_cons.1 ha with rfl|ha;exact h;cases List.mem_singleton.1 ha;exact h2⟩
theorem callF' {P:Program} {Q:AV->Prop} {L:List (Nat->List AV->Prop)} {Y:Sy} {f:FuncId} {ft:FT} {hv vs:List AV} {n:Nat} {bs:VTs} {R:Nat->List AV->Prop} (h1:CF P f ft vs R) (h0:denL Y.v hv=vs) (h2:okL vs=true) (h3:VOKb P Q R L (Y.puts n vs) (Nat.add n ft.ent.nv) 0 bs):VOK P Q L Y (.callF f ft hv n bs):=by
 subst h0;exact VOK_callF h1 h2 h3
theorem okP {a:AV} (h:okC a=true) {n m:Int}:okL [a,.int .i64 n,.int .i64 m]=true:=by simp only [okL,okC,h]
theorem okQ {a:AV} (h:okC a=true) {n m k:Int}:okL [a,.int .i64 n,.int .i64 m,.int .i64 k]=true:=by simp only [okL,okC,h]
theorem okXn (x:GX) (n:Int):okL (encX x++[.int .i64 n])=true:=encL_ok.okL_join (okX x) rfl
theorem finX {l:List UInt8} {d n j:Nat} {x:GX} {hv:List AV} {Y:Sy} {L:List (Nat->List AV->Prop)} (h:denL Y.v hv=encX x++[.int .i64 (n:Int)]) (hw:WX (d+1) x) (hn:n<=l.length):VOK Try.prog (QF (RX l d)) L Y (.done (.tup (.int .i64 (.ofNat j)::hv))):=
 VOK_fin (by rw [h];exact okXn x n) ⟨x,n,h,hw,hn⟩
section
variable {P:Program} {Q:AV->Prop} {L:List (Nat->List AV->Prop)} {Y:Sy} {t:TypeId} {cx cy:Bool} {args:List AV} {n:Nat} {A B:VT} {k:IntKind} {a b:Int}
def cmpB:BinOp->Int->Int->Bool
 | .eql,a,b=>decide (a=b)
 | .neq,a,b=> !decide (a=b)
 | .lss,a,b=>decide (a<b)
 | .gtr,a,b=>decide (b<a)
 | .leq,a,b=>decide (a<=b)
 |_,_,_=>false
theorem it_b {op:BinOp} (h0:denL Y.v args=[.int k a,.int k b]) (ho:(match op with| .eql=>true| .neq=>true| .lss=>true| .gtr=>true| .leq=>true|_=>false)=true)
  (h1:cmpB op a b=true->VOK P Q L (Y.put n (.bool (cmpB op a b))) A) (h2:cmpB op a b=false->VOK P Q L (Y.put n (.bool (cmpB op a b))) B):VOK P Q L Y (.lt (.bin op t cx cy) args n none (.ite n A B)):=by
 have hr:(XOp.bin op t cx cy).run P [.int k a,.int k b]=some (.bool (cmpB op a b)):=by
  cases op<;>simp only at ho<;>first|(cases ho;done)|skip
  ·exact run_eql ..
  ·exact run_neq ..
  ·exact run_lss ..
  ·exact run_leq ..
  ·exact run_gtr ..
 exact VOK_lt (by rw [h0];exact hr) rfl (VOK_ite (t:=cmpB op a b) (by rw [put_v,if_pos rfl]) h1 h2)
end
def c83:VC:=⟨⟨[],[]⟩,[],[],1,true,[(64,ft64),(81,ft81)]⟩
def t83:VT:=
 (.callF 64 ft64 [64,65,J 4] 68
 (.cons 2
 (.lt (.bin .eql 3 false true) [66,J 1] 73 none
 (.ite 73
 (.callF 64 ft64 [64,72,J 2] 74
 (.cons 2
 (.lt (.iaddr 38) [.vsl 4 10 [J 2,J 0,.str [98],.str [],J 0,J 0,J 0,J 0,.flt .f64 0,.nsl,J 2,J 0,.str [113],.str [],J 0,J 0,J 0,J 0,.flt .f64 0,.nsl,J 2,J 0,.str [116,109],.str [113],J 0,J 0,J 0,J 0,.flt .f64 0,.nsl,J 1,J 0,.str [],.str [],J 0,J 0,J 1,77,.flt .f64 0,.nsl],71] 79 none
 (.lt (.load 40) [79] 80 (some 10)
 (.done (.tup [J 0,80,81,82,83,84,85,86,87,88,89,78]))))
 .nil))
 (.lt (.bin .eql 3 false true) [66,J 2] 74 none
 (.ite 74
 (.lt (.bin .eql 3 false true) [71,J 0] 75 none
 (.ite 75
 (.lt (.bin .gtr 3 false true) [67,J 1] 76 none
 (.ite 76
 (.lt (.bin .sub 3 false true) [67,J 1] 77 none
 (.callF 81 ft81 [64,72,J 2,77] 78
 (.cons 11
 (.done (.tup [J 0,J 3,J 0,.str [107],.str [],J 0,J 0,J 0,J 0,.flt .f64 0,.vsl 1 10 [82,83,84,85,86,87,88,89,90,91],92]))
 .nil)))
 (.lt (.bin .lss 3 false true) [71,J 2] 77 none
 (.ite 77
 (.callF 64 ft64 [64,72,J 7] 78
 (.cons 2
 (.done (.tup [J 0,J 17,J 2,.str [],.str [],J 0,J 0,J 0,J 0,.flt .f64 0,.vsl 1 10 [J 1,J 0,.str [],.str [],J 0,J 0,J 3,81,.flt .f64 0,.nsl],82]))
 .nil))
 (.callF 64 ft64 [64,72,J 4] 78
 (.cons 2
 (.lt (.iaddr 38) [.vsl 4 10 [J 2,J 0,.str [97],.str [],J 0,J 0,J 0,J 0,.flt .f64 0,.nsl,J 2,J 0,.str [120],.str [],J 0,J 0,J 0,J 0,.flt .f64 0,.nsl,J 2,J 0,.str [111],.str [],J 0,J 0,J 0,J 0,.flt .f64 0,.nsl,J 2,J 0,.str [99],.str [99,118],J 0,J 0,J 0,J 0,.flt .f64 0,.nsl],81] 83 none
 (.lt (.load 40) [83] 84 (some 10)
 (.done (.tup [J 0,84,85,86,87,88,89,90,91,92,93,82]))))
 .nil))))))
 (.lt (.bin .lss 3 false true) [71,J 2] 76 none
 (.ite 76
 (.callF 64 ft64 [64,72,J 7] 77
 (.cons 2
 (.done (.tup [J 0,J 17,J 2,.str [],.str [],J 0,J 0,J 0,J 0,.flt .f64 0,.vsl 1 10 [J 1,J 0,.str [],.str [],J 0,J 0,J 3,80,.flt .f64 0,.nsl],81]))
 .nil))
 (.callF 64 ft64 [64,72,J 4] 77
 (.cons 2
 (.lt (.iaddr 38) [.vsl 4 10 [J 2,J 0,.str [97],.str [],J 0,J 0,J 0,J 0,.flt .f64 0,.nsl,J 2,J 0,.str [120],.str [],J 0,J 0,J 0,J 0,.flt .f64 0,.nsl,J 2,J 0,.str [111],.str [],J 0,J 0,J 0,J 0,.flt .f64 0,.nsl,J 2,J 0,.str [99],.str [99,118],J 0,J 0,J 0,J 0,.flt .f64 0,.nsl],80] 82 none
 (.lt (.load 40) [82] 83 (some 10)
 (.done (.tup [J 0,83,84,85,86,87,88,89,90,91,92,81]))))
 .nil))))))
 (.lt (.bin .eql 3 false true) [66,J 3] 75 none
 (.ite 75
 (.lt (.bin .lss 3 false true) [71,J 2] 76 none
 (.ite 76
 (.callF 64 ft64 [64,72,J 9] 77
 (.cons 2
 (.done (.tup [J 0,J 1,J 0,.str [],.str [],J 0,J 0,J 3,80,.flt .f64 0,.nsl,81]))
 .nil))
 (.done (.tup [J 0,J 2,J 0,.str [121],.str [],J 0,J 0,J 0,J 0,.flt .f64 0,.nsl,72]))))
 (.lt (.bin .eql 3 false true) [66,J 4] 76 none
 (.ite 76
 (.lt (.bin .eql 3 false true) [71,J 0] 77 none
 (.ite 77
 (.done (.tup [J 0,J 2,J 0,.str [116,109],.str [101,116],J 0,J 0,J 0,J 0,.flt .f64 0,.nsl,72]))
 (.lt (.bin .eql 3 false true) [71,J 1] 78 none
 (.ite 78
 (.callF 64 ft64 [64,72,J 50] 79
 (.cons 2
 (.done (.tup [J 0,J 1,J 0,.str [],.str [],J 0,J 0,J 4,82,.flt .f64 0,.nsl,83]))
 .nil))
 (.done (.tup [J 0,J 2,J 0,.str [119],.str [],J 0,J 0,J 0,J 0,.flt .f64 0,.nsl,72]))))))
 (.lt (.bin .lss 3 false true) [71,J 2] 77 none
 (.ite 77
 (.callF 64 ft64 [64,72,J 4] 78
 (.cons 2
 (.lt (.iaddr 143) [.vsl 4 1 [.flt .f64 0,.flt .f64 4609434218613702656,.flt .f64 4611686018427387904,.flt .f64 4598175219545276416],81] 83 none
 (.lt (.load 35) [83] 84 none
 (.done (.tup [J 0,J 1,J 0,.str [],.str [],J 0,J 0,J 5,J 0,84,.nsl,82]))))
 .nil))
 (.done (.tup [J 0,J 2,J 0,.str [122],.str [],J 0,J 0,J 0,J 0,.flt .f64 0,.nsl,72]))))))))))))
 .nil))
def c81:VC:=⟨⟨[],[]⟩,[],[],1,true,[(64,ft64),(81,ft81),(83,ft83)]⟩
def t81:VT:=
 (.lt (.bin .leq 3 false true) [67,J 1] 68 none
 (.ite 68
 (.callF 83 ft83 [64,65,66,67] 69
 (.cons 11
 (.done (.tup [J 0,73,74,75,76,77,78,79,80,81,82,83]))
 .nil))
 (.callF 64 ft64 [64,65,J 4] 69
 (.cons 2
 (.lt (.bin .eql 3 false true) [72,J 0] 74 none
 (.ite 74
 (.callF 83 ft83 [64,73,66,67] 75
 (.cons 11
 (.done (.tup [J 0,79,80,81,82,83,84,85,86,87,88,89]))
 .nil))
 (.lt (.bin .eql 3 false true) [66,J 1] 75 none
 (.ite 75
 (.callF 64 ft64 [64,73,J 5] 76
 (.cons 2
 (.lt (.bin .eql 3 false true) [79,J 0] 81 none
 (.ite 81
 (.lt (.bin .sub 3 false true) [67,J 1] 82 none
 (.callF 81 ft81 [64,80,J 1,82] 83
 (.cons 11
 (.done (.tup [J 0,J 15,J 0,.str [],.str [],J 0,J 0,J 0,J 0,.flt .f64 0,.vsl 1 10 [87,88,89,90,91,92,93,94,95,96],97]))
 .nil)))
 (.lt (.bin .eql 3 false true) [79,J 1] 82 none
 (.ite 82
 (.callF 64 ft64 [64,80,J 2] 83
 (.cons 2
 (.lt (.bin .add 3 true false) [J 13,86] 88 none
 (.lt (.bin .sub 3 false true) [67,J 1] 89 none
 (.callF 81 ft81 [64,87,J 1,89] 90
 (.cons 11
 (.lt (.bin .sub 3 false true) [67,J 1] 105 none
 (.callF 81 ft81 [64,104,J 1,105] 106
 (.cons 11
 (.done (.tup [J 0,88,J 0,.str [],.str [],J 0,J 0,J 0,J 0,.flt .f64 0,.vsl 2 10 [94,95,96,97,98,99,100,101,102,103,110,111,112,113,114,115,116,117,118,119],120]))
 .nil)))
 .nil))))
 .nil))
 (.callF 64 ft64 [64,80,J 4] 83
 (.cons 2
 (.lt (.bin .add 3 true false) [J 2,86] 88 none
 (.callF 64 ft64 [64,87,J 4] 89
 (.cons 2
 (.lt (.bin .add 3 true false) [J 9,92] 94 none
 (.lt (.bin .sub 3 false true) [67,J 1] 95 none
 (.callF 81 ft81 [64,93,88,95] 96
 (.cons 11
 (.lt (.bin .sub 3 false true) [67,J 1] 111 none
 (.callF 81 ft81 [64,110,88,111] 112
 (.cons 11
 (.done (.tup [J 0,94,J 0,.str [],.str [],J 0,J 0,J 0,J 0,.flt .f64 0,.vsl 2 10 [100,101,102,103,104,105,106,107,108,109,116,117,118,119,120,121,122,123,124,125],126]))
 .nil)))
 .nil))))
 .nil)))
 .nil))))))
 .nil))
 (.callF 64 ft64 [64,73,J 9] 76
 (.cons 2
 (.lt (.bin .eql 3 false true) [79,J 0] 81 none
 (.ite 81
 (.lt (.bin .sub 3 false true) [67,J 1] 82 none
 (.callF 81 ft81 [64,80,66,82] 83
 (.cons 11
 (.done (.tup [J 0,J 16,J 0,.str [],.str [],J 0,J 0,J 0,J 0,.flt .f64 0,.vsl 1 10 [87,88,89,90,91,92,93,94,95,96],97]))
 .nil)))
 (.lt (.bin .eql 3 false true) [79,J 1] 82 none
 (.ite 82
 (.callF 64 ft64 [64,80,J 4] 83
 (.cons 2
 (.lt (.bin .add 3 true false) [J 2,86] 88 none
 (.lt (.bin .sub 3 false true) [67,J 1] 89 none
 (.callF 81 ft81 [64,87,88,89] 90
 (.cons 11
 (.done (.tup [J 0,J 17,66,.str [],.str [],J 0,J 0,J 0,J 0,.flt .f64 0,.vsl 1 10 [94,95,96,97,98,99,100,101,102,103],104]))
 .nil))))
 .nil))
 (.lt (.bin .eql 3 false true) [79,J 2] 83 none
 (.ite 83
 (.lt (.bin .neq 3 false true) [66,J 5] 84 none
 (.ite 84
 (.lt (.bin .sub 3 false true) [67,J 1] 85 none
 (.callF 81 ft81 [64,80,66,85] 86
 (.cons 11
 (.lt (.bin .sub 3 false true) [67,J 1] 101 none
 (.callF 81 ft81 [64,100,66,101] 102
 (.cons 11
 (.done (.tup [J 0,J 8,J 0,.str [],.str [],J 0,J 0,J 0,J 0,.flt .f64 0,.vsl 2 10 [90,91,92,93,94,95,96,97,98,99,106,107,108,109,110,111,112,113,114,115],116]))
 .nil)))
 .nil)))
 (.callF 64 ft64 [64,80,J 4] 85
 (.cons 2
 (.lt (.bin .add 3 true false) [J 4,88] 90 none
 (.lt (.bin .sub 3 false true) [67,J 1] 91 none
 (.callF 81 ft81 [64,89,66,91] 92
 (.cons 11
 (.lt (.bin .sub 3 false true) [67,J 1] 107 none
 (.callF 81 ft81 [64,106,66,107] 108
 (.cons 11
 (.done (.tup [J 0,90,J 0,.str [],.str [],J 0,J 0,J 0,J 0,.flt .f64 0,.vsl 2 10 [96,97,98,99,100,101,102,103,104,105,112,113,114,115,116,117,118,119,120,121],122]))
 .nil)))
 .nil))))
 .nil))))
 (.callF 64 ft64 [64,80,J 4] 84
 (.cons 2
 (.lt (.bin .add 3 true false) [J 4,87] 89 none
 (.lt (.bin .sub 3 false true) [67,J 1] 90 none
 (.callF 81 ft81 [64,88,66,90] 91
 (.cons 11
 (.lt (.bin .sub 3 false true) [67,J 1] 106 none
 (.callF 81 ft81 [64,105,66,106] 107
 (.cons 11
 (.done (.tup [J 0,89,J 0,.str [],.str [],J 0,J 0,J 0,J 0,.flt .f64 0,.vsl 2 10 [95,96,97,98,99,100,101,102,103,104,111,112,113,114,115,116,117,118,119,120],121]))
 .nil)))
 .nil))))
 .nil))))))))
 .nil))))))
 .nil))))
theorem p83 {l:List UInt8} {a:AV} (hp:Pk l a) (d:Nat) (hd2:d<=100) (hX:1<=d->PX l a 81 d):PX l a 83 (d+1):=by
 intro n k hn hk
 have hA:=hp.1.ok okC8
 refine cf_tree (c:=c83) (n:=300) (t:=t83) mo ov rfl (λY _=>known0 _) (by kernel_rfl) λY hf hg=>?_
 unfold t83
 have f7:∀v:Nat,(v:Int)<7->WX (d+1+1) (.mk 17 2 [] [] 0 0 0 0 0 [.mk 1 0 [] [] 0 0 3 (v:Int) 0 []]):=λv hv=>WX_1 (by decide) (WX_lit (by unfold LitOk;omega) (.inl rfl))
 (refine callF' (p64i hp hn (by first|decide|omega) (by first|decide|omega)) rfl (okP hA) ⟨?_,trivial⟩;intro ws hw;rcases hw with ⟨v,n,rfl,hv,hn⟩)
 (refine it_b rfl rfl (λh=>?_) (λh=>?_)<;>rw [cmpB]at h)
 ·((have e4:v=0\/v=1\/v=2\/v=3:=by omega);rcases e4 with rfl|rfl|rfl|rfl)
  all_goals (refine callF' (p64i hp hn (by first|decide|omega) (by first|decide|omega)) rfl (okP hA) ⟨?_,trivial⟩;intro ws hw;rcases hw with ⟨v,n,rfl,hv,hn⟩);refine VOK_lt rfl rfl (VOK_ltN rfl rfl rfl ?_);(first
                                                                                                                                                                                                               |exact finX (x:=.mk 2 _ _ _ _ _ _ _ _ []) rfl (WX_name (by decide)) hn
                                                                                                                                                                                                               |exact finX (x:=.mk 1 _ _ _ _ _ _ _ _ []) rfl (WX_lit (by unfold LitOk;omega) (by first|exact .inl rfl|exact .inr (.inl rfl)|exact .inr (.inr (.inl rfl))|exact .inr (.inr (.inr rfl)))) hn)
 (refine it_b rfl rfl (λh=>?_) (λh=>?_)<;>rw [cmpB]at h)
 ·(refine it_b rfl rfl (λh=>?_) (λh=>?_)<;>rw [cmpB]at h)
  ·(refine it_b rfl rfl (λh=>?_) (λh=>?_)<;>rw [cmpB]at h)
   ·have hd1:1<=d:=by simp at h;omega
    refine VOK_lt (sub_c (z:=(d:Int)) (by omega) (by omega) (by omega)) rfl ?_
    (refine callF' ((hX hd1) _ _ hn (by first|decide|(simp only [decide_eq_true_eq,decide_eq_false_iff_not]at *; omega))) rfl (okQ hA) ⟨?_,trivial⟩;intro ws hw;obtain ⟨⟨op,kd,nm,fd,ad,nn,vk,vi,vf,args⟩,n,rfl,hx,hn⟩:=hw)
    (exact finX (x:=.mk _ _ _ _ _ _ _ _ _ [.mk _ _ _ _ _ _ _ _ _ _]) rfl (WX_1 (by first|decide|(refine .inr (.inr (.inr ⟨rfl,?_,?_⟩))<;>(simp only [decide_eq_true_eq,decide_eq_false_iff_not]at *; omega))) (by assumption)) hn)
   ·(refine it_b rfl rfl (λh=>?_) (λh=>?_)<;>rw [cmpB]at h)
    ·(refine callF' (p64i hp hn (by first|decide|omega) (by first|decide|omega)) rfl (okP hA) ⟨?_,trivial⟩;intro ws hw;rcases hw with ⟨v,n,rfl,hv,hn⟩)
     exact finX (x:=.mk _ _ _ _ _ _ _ _ _ [.mk _ _ _ _ _ _ _ _ _ []]) rfl (f7 _ hv) hn
    ·(refine callF' (p64i hp hn (by first|decide|omega) (by first|decide|omega)) rfl (okP hA) ⟨?_,trivial⟩;intro ws hw;rcases hw with ⟨v,n,rfl,hv,hn⟩);((have e4:v=0\/v=1\/v=2\/v=3:=by omega);rcases e4 with rfl|rfl|rfl|rfl)
     all_goals refine VOK_lt rfl rfl (VOK_ltN rfl rfl rfl ?_);(first
                                                                |exact finX (x:=.mk 2 _ _ _ _ _ _ _ _ []) rfl (WX_name (by decide)) hn
                                                                |exact finX (x:=.mk 1 _ _ _ _ _ _ _ _ []) rfl (WX_lit (by unfold LitOk;omega) (by first|exact .inl rfl|exact .inr (.inl rfl)|exact .inr (.inr (.inl rfl))|exact .inr (.inr (.inr rfl)))) hn)
  ·(refine it_b rfl rfl (λh=>?_) (λh=>?_)<;>rw [cmpB]at h)
   ·(refine callF' (p64i hp hn (by first|decide|omega) (by first|decide|omega)) rfl (okP hA) ⟨?_,trivial⟩;intro ws hw;rcases hw with ⟨v,n,rfl,hv,hn⟩)
    exact finX (x:=.mk _ _ _ _ _ _ _ _ _ [.mk _ _ _ _ _ _ _ _ _ []]) rfl (f7 _ hv) hn
   ·(refine callF' (p64i hp hn (by first|decide|omega) (by first|decide|omega)) rfl (okP hA) ⟨?_,trivial⟩;intro ws hw;rcases hw with ⟨v,n,rfl,hv,hn⟩);((have e4:v=0\/v=1\/v=2\/v=3:=by omega);rcases e4 with rfl|rfl|rfl|rfl)
    all_goals refine VOK_lt rfl rfl (VOK_ltN rfl rfl rfl ?_);(first
                                                               |exact finX (x:=.mk 2 _ _ _ _ _ _ _ _ []) rfl (WX_name (by decide)) hn
                                                               |exact finX (x:=.mk 1 _ _ _ _ _ _ _ _ []) rfl (WX_lit (by unfold LitOk;omega) (by first|exact .inl rfl|exact .inr (.inl rfl)|exact .inr (.inr (.inl rfl))|exact .inr (.inr (.inr rfl)))) hn)
 (refine it_b rfl rfl (λh=>?_) (λh=>?_)<;>rw [cmpB]at h)
 ·(refine it_b rfl rfl (λh=>?_) (λh=>?_)<;>rw [cmpB]at h)
  ·(refine callF' (p64i hp hn (by first|decide|omega) (by first|decide|omega)) rfl (okP hA) ⟨?_,trivial⟩;intro ws hw;rcases hw with ⟨v,n,rfl,hv,hn⟩);(first
                                                                                                                                                       |exact finX (x:=.mk 2 _ _ _ _ _ _ _ _ []) rfl (WX_name (by decide)) hn
                                                                                                                                                       |exact finX (x:=.mk 1 _ _ _ _ _ _ _ _ []) rfl (WX_lit (by unfold LitOk;omega) (by first|exact .inl rfl|exact .inr (.inl rfl)|exact .inr (.inr (.inl rfl))|exact .inr (.inr (.inr rfl)))) hn)
  ·(first
     |exact finX (x:=.mk 2 _ _ _ _ _ _ _ _ []) rfl (WX_name (by decide)) hn
     |exact finX (x:=.mk 1 _ _ _ _ _ _ _ _ []) rfl (WX_lit (by unfold LitOk;omega) (by first|exact .inl rfl|exact .inr (.inl rfl)|exact .inr (.inr (.inl rfl))|exact .inr (.inr (.inr rfl)))) hn)
 (refine it_b rfl rfl (λh=>?_) (λh=>?_)<;>rw [cmpB]at h)
 ·(refine it_b rfl rfl (λh=>?_) (λh=>?_)<;>rw [cmpB]at h)
  ·(first
     |exact finX (x:=.mk 2 _ _ _ _ _ _ _ _ []) rfl (WX_name (by decide)) hn
     |exact finX (x:=.mk 1 _ _ _ _ _ _ _ _ []) rfl (WX_lit (by unfold LitOk;omega) (by first|exact .inl rfl|exact .inr (.inl rfl)|exact .inr (.inr (.inl rfl))|exact .inr (.inr (.inr rfl)))) hn)
  ·(refine it_b rfl rfl (λh=>?_) (λh=>?_)<;>rw [cmpB]at h)
   ·(refine callF' (p64i hp hn (by first|decide|omega) (by first|decide|omega)) rfl (okP hA) ⟨?_,trivial⟩;intro ws hw;rcases hw with ⟨v,n,rfl,hv,hn⟩);(first
                                                                                                                                                        |exact finX (x:=.mk 2 _ _ _ _ _ _ _ _ []) rfl (WX_name (by decide)) hn
                                                                                                                                                        |exact finX (x:=.mk 1 _ _ _ _ _ _ _ _ []) rfl (WX_lit (by unfold LitOk;omega) (by first|exact .inl rfl|exact .inr (.inl rfl)|exact .inr (.inr (.inl rfl))|exact .inr (.inr (.inr rfl)))) hn)
   ·(first
      |exact finX (x:=.mk 2 _ _ _ _ _ _ _ _ []) rfl (WX_name (by decide)) hn
      |exact finX (x:=.mk 1 _ _ _ _ _ _ _ _ []) rfl (WX_lit (by unfold LitOk;omega) (by first|exact .inl rfl|exact .inr (.inl rfl)|exact .inr (.inr (.inl rfl))|exact .inr (.inr (.inr rfl)))) hn)
 (refine it_b rfl rfl (λh=>?_) (λh=>?_)<;>rw [cmpB]at h)
 ·(refine callF' (p64i hp hn (by first|decide|omega) (by first|decide|omega)) rfl (okP hA) ⟨?_,trivial⟩;intro ws hw;rcases hw with ⟨v,n,rfl,hv,hn⟩);((have e4:v=0\/v=1\/v=2\/v=3:=by omega);rcases e4 with rfl|rfl|rfl|rfl)
  all_goals refine VOK_lt rfl rfl (VOK_lt rfl rfl ?_);(first
                                                        |exact finX (x:=.mk 2 _ _ _ _ _ _ _ _ []) rfl (WX_name (by decide)) hn
                                                        |exact finX (x:=.mk 1 _ _ _ _ _ _ _ _ []) rfl (WX_lit (by unfold LitOk;omega) (by first|exact .inl rfl|exact .inr (.inl rfl)|exact .inr (.inr (.inl rfl))|exact .inr (.inr (.inr rfl)))) hn)
 ·(first
    |exact finX (x:=.mk 2 _ _ _ _ _ _ _ _ []) rfl (WX_name (by decide)) hn
    |exact finX (x:=.mk 1 _ _ _ _ _ _ _ _ []) rfl (WX_lit (by unfold LitOk;omega) (by first|exact .inl rfl|exact .inr (.inl rfl)|exact .inr (.inr (.inl rfl))|exact .inr (.inr (.inr rfl)))) hn)
theorem p81 {l:List UInt8} {a:AV} (hp:Pk l a) (d:Nat) (hd2:d<=100) (h83:PX l a 83 (d+1)) (h81:1<=d->PX l a 81 d):PX l a 81 (d+1):=by
 intro n k hn hk
 have hA:=hp.1.ok okC8
 refine cf_tree (c:=c81) (n:=300) (t:=t81) mo ov rfl (λY _=>known0 _) (by kernel_rfl) λY hf hg=>?_
 unfold t81
 (refine it_b rfl rfl (λh=>?_) (λh=>?_)<;>rw [cmpB]at h)
 ·(refine callF' (h83 _ _ hn (by first|decide|(simp only [decide_eq_true_eq,decide_eq_false_iff_not]at *; omega))) rfl (okQ hA) ⟨?_,trivial⟩;intro ws hw;obtain ⟨⟨op,kd,nm,fd,ad,nn,vk,vi,vf,args⟩,n,rfl,hx,hn⟩:=hw);exact finX (x:=.mk _ _ _ _ _ _ _ _ _ _) rfl hx hn
 have hX:=h81 (by simp at h;omega)
 (refine callF' (p64i hp hn (by first|decide|omega) (by first|decide|omega)) rfl (okP hA) ⟨?_,trivial⟩;intro ws hw;rcases hw with ⟨v,n,rfl,hv,hn⟩);(refine it_b rfl rfl (λh=>?_) (λh=>?_)<;>rw [cmpB]at h)
 ·(refine callF' (h83 _ _ hn (by first|decide|(simp only [decide_eq_true_eq,decide_eq_false_iff_not]at *; omega))) rfl (okQ hA) ⟨?_,trivial⟩;intro ws hw;obtain ⟨⟨op,kd,nm,fd,ad,nn,vk,vi,vf,args⟩,n,rfl,hx,hn⟩:=hw);exact finX (x:=.mk _ _ _ _ _ _ _ _ _ _) rfl hx hn
 (refine it_b rfl rfl (λh=>?_) (λh=>?_)<;>rw [cmpB]at h)
 ·(refine callF' (p64i hp hn (by first|decide|omega) (by first|decide|omega)) rfl (okP hA) ⟨?_,trivial⟩;intro ws hw;rcases hw with ⟨v,n,rfl,hv,hn⟩);(refine it_b rfl rfl (λh=>?_) (λh=>?_)<;>rw [cmpB]at h)
  ·(refine VOK_lt (sub_c (z:=(d:Int)) (by omega) (by omega) (by omega)) rfl ?_);(refine callF' (hX _ _ hn (by first|decide|(simp only [decide_eq_true_eq,decide_eq_false_iff_not]at *; omega))) rfl (okQ hA) ⟨?_,trivial⟩;intro ws hw;obtain ⟨⟨op,kd,nm,fd,ad,nn,vk,vi,vf,args⟩,n,rfl,hx,hn⟩:=hw);(exact finX (x:=.mk _ _ _ _ _ _ _ _ _ [.mk _ _ _ _ _ _ _ _ _ _]) rfl (WX_1 (by first|decide|(refine .inr (.inr (.inr ⟨rfl,?_,?_⟩))<;>(simp only [decide_eq_true_eq,decide_eq_false_iff_not]at *; omega))) (by assumption)) hn)
  (refine it_b rfl rfl (λh=>?_) (λh=>?_)<;>rw [cmpB]at h)
  ·(refine callF' (p64i hp hn (by first|decide|omega) (by first|decide|omega)) rfl (okP hA) ⟨?_,trivial⟩;intro ws hw;rcases hw with ⟨v,n,rfl,hv,hn⟩);(refine VOK_lt (add_c (by omega) (by omega)) rfl ?_);(refine VOK_lt (sub_c (z:=(d:Int)) (by omega) (by omega) (by omega)) rfl ?_);(refine callF' (hX _ _ hn (by first|decide|(simp only [decide_eq_true_eq,decide_eq_false_iff_not]at *; omega))) rfl (okQ hA) ⟨?_,trivial⟩;intro ws hw;obtain ⟨⟨op,kd,nm,fd,ad,nn,vk,vi,vf,args⟩,n,rfl,hx,hn⟩:=hw);(refine VOK_lt (sub_c (z:=(d:Int)) (by omega) (by omega) (by omega)) rfl ?_);(refine callF' (hX _ _ hn (by first|decide|(simp only [decide_eq_true_eq,decide_eq_false_iff_not]at *; omega))) rfl (okQ hA) ⟨?_,trivial⟩;intro ws hw;obtain ⟨⟨op,kd,nm,fd,ad,nn,vk,vi,vf,args⟩,n,rfl,hx,hn⟩:=hw);(exact finX (x:=.mk _ _ _ _ _ _ _ _ _ [.mk _ _ _ _ _ _ _ _ _ _,.mk _ _ _ _ _ _ _ _ _ _]) rfl (WX_2 (by omega) (by assumption) (by assumption)) hn)
  ·(refine callF' (p64i hp hn (by first|decide|omega) (by first|decide|omega)) rfl (okP hA) ⟨?_,trivial⟩;intro ws hw;rcases hw with ⟨v,n,rfl,hv,hn⟩);(refine VOK_lt (add_c (by omega) (by omega)) rfl ?_);(refine callF' (p64i hp hn (by first|decide|omega) (by first|decide|omega)) rfl (okP hA) ⟨?_,trivial⟩;intro ws hw;rcases hw with ⟨v,n,rfl,hv,hn⟩);(refine VOK_lt (add_c (by omega) (by omega)) rfl ?_);(refine VOK_lt (sub_c (z:=(d:Int)) (by omega) (by omega) (by omega)) rfl ?_);(refine callF' (hX _ _ hn (by first|decide|(simp only [decide_eq_true_eq,decide_eq_false_iff_not]at *; omega))) rfl (okQ hA) ⟨?_,trivial⟩;intro ws hw;obtain ⟨⟨op,kd,nm,fd,ad,nn,vk,vi,vf,args⟩,n,rfl,hx,hn⟩:=hw);(refine VOK_lt (sub_c (z:=(d:Int)) (by omega) (by omega) (by omega)) rfl ?_);(refine callF' (hX _ _ hn (by first|decide|(simp only [decide_eq_true_eq,decide_eq_false_iff_not]at *; omega))) rfl (okQ hA) ⟨?_,trivial⟩;intro ws hw;obtain ⟨⟨op,kd,nm,fd,ad,nn,vk,vi,vf,args⟩,n,rfl,hx,hn⟩:=hw);(exact finX (x:=.mk _ _ _ _ _ _ _ _ _ [.mk _ _ _ _ _ _ _ _ _ _,.mk _ _ _ _ _ _ _ _ _ _]) rfl (WX_2 (by omega) (by assumption) (by assumption)) hn)
 ·(refine callF' (p64i hp hn (by first|decide|omega) (by first|decide|omega)) rfl (okP hA) ⟨?_,trivial⟩;intro ws hw;rcases hw with ⟨v,n,rfl,hv,hn⟩);(refine it_b rfl rfl (λh=>?_) (λh=>?_)<;>rw [cmpB]at h)
  ·(refine VOK_lt (sub_c (z:=(d:Int)) (by omega) (by omega) (by omega)) rfl ?_);(refine callF' (hX _ _ hn (by first|decide|(simp only [decide_eq_true_eq,decide_eq_false_iff_not]at *; omega))) rfl (okQ hA) ⟨?_,trivial⟩;intro ws hw;obtain ⟨⟨op,kd,nm,fd,ad,nn,vk,vi,vf,args⟩,n,rfl,hx,hn⟩:=hw);(exact finX (x:=.mk _ _ _ _ _ _ _ _ _ [.mk _ _ _ _ _ _ _ _ _ _]) rfl (WX_1 (by first|decide|(refine .inr (.inr (.inr ⟨rfl,?_,?_⟩))<;>(simp only [decide_eq_true_eq,decide_eq_false_iff_not]at *; omega))) (by assumption)) hn)
  (refine it_b rfl rfl (λh=>?_) (λh=>?_)<;>rw [cmpB]at h)
  ·(refine callF' (p64i hp hn (by first|decide|omega) (by first|decide|omega)) rfl (okP hA) ⟨?_,trivial⟩;intro ws hw;rcases hw with ⟨v,n,rfl,hv,hn⟩);(refine VOK_lt (add_c (by omega) (by omega)) rfl ?_);(refine VOK_lt (sub_c (z:=(d:Int)) (by omega) (by omega) (by omega)) rfl ?_);(refine callF' (hX _ _ hn (by first|decide|(simp only [decide_eq_true_eq,decide_eq_false_iff_not]at *; omega))) rfl (okQ hA) ⟨?_,trivial⟩;intro ws hw;obtain ⟨⟨op,kd,nm,fd,ad,nn,vk,vi,vf,args⟩,n,rfl,hx,hn⟩:=hw);(exact finX (x:=.mk _ _ _ _ _ _ _ _ _ [.mk _ _ _ _ _ _ _ _ _ _]) rfl (WX_1 (by first|decide|(refine .inr (.inr (.inr ⟨rfl,?_,?_⟩))<;>(simp only [decide_eq_true_eq,decide_eq_false_iff_not]at *; omega))) (by assumption)) hn)
  (refine it_b rfl rfl (λh=>?_) (λh=>?_)<;>rw [cmpB]at h)
  ·(refine it_b rfl rfl (λh=>?_) (λh=>?_)<;>rw [cmpB]at h)
   ·(refine VOK_lt (sub_c (z:=(d:Int)) (by omega) (by omega) (by omega)) rfl ?_);(refine callF' (hX _ _ hn (by first|decide|(simp only [decide_eq_true_eq,decide_eq_false_iff_not]at *; omega))) rfl (okQ hA) ⟨?_,trivial⟩;intro ws hw;obtain ⟨⟨op,kd,nm,fd,ad,nn,vk,vi,vf,args⟩,n,rfl,hx,hn⟩:=hw);(refine VOK_lt (sub_c (z:=(d:Int)) (by omega) (by omega) (by omega)) rfl ?_);(refine callF' (hX _ _ hn (by first|decide|(simp only [decide_eq_true_eq,decide_eq_false_iff_not]at *; omega))) rfl (okQ hA) ⟨?_,trivial⟩;intro ws hw;obtain ⟨⟨op,kd,nm,fd,ad,nn,vk,vi,vf,args⟩,n,rfl,hx,hn⟩:=hw);(exact finX (x:=.mk _ _ _ _ _ _ _ _ _ [.mk _ _ _ _ _ _ _ _ _ _,.mk _ _ _ _ _ _ _ _ _ _]) rfl (WX_2 (by omega) (by assumption) (by assumption)) hn)
   ·(refine callF' (p64i hp hn (by first|decide|omega) (by first|decide|omega)) rfl (okP hA) ⟨?_,trivial⟩;intro ws hw;rcases hw with ⟨v,n,rfl,hv,hn⟩);(refine VOK_lt (add_c (by omega) (by omega)) rfl ?_);(refine VOK_lt (sub_c (z:=(d:Int)) (by omega) (by omega) (by omega)) rfl ?_);(refine callF' (hX _ _ hn (by first|decide|(simp only [decide_eq_true_eq,decide_eq_false_iff_not]at *; omega))) rfl (okQ hA) ⟨?_,trivial⟩;intro ws hw;obtain ⟨⟨op,kd,nm,fd,ad,nn,vk,vi,vf,args⟩,n,rfl,hx,hn⟩:=hw);(refine VOK_lt (sub_c (z:=(d:Int)) (by omega) (by omega) (by omega)) rfl ?_);(refine callF' (hX _ _ hn (by first|decide|(simp only [decide_eq_true_eq,decide_eq_false_iff_not]at *; omega))) rfl (okQ hA) ⟨?_,trivial⟩;intro ws hw;obtain ⟨⟨op,kd,nm,fd,ad,nn,vk,vi,vf,args⟩,n,rfl,hx,hn⟩:=hw);(exact finX (x:=.mk _ _ _ _ _ _ _ _ _ [.mk _ _ _ _ _ _ _ _ _ _,.mk _ _ _ _ _ _ _ _ _ _]) rfl (WX_2 (by omega) (by assumption) (by assumption)) hn)
  ·(refine callF' (p64i hp hn (by first|decide|omega) (by first|decide|omega)) rfl (okP hA) ⟨?_,trivial⟩;intro ws hw;rcases hw with ⟨v,n,rfl,hv,hn⟩);(refine VOK_lt (add_c (by omega) (by omega)) rfl ?_);(refine VOK_lt (sub_c (z:=(d:Int)) (by omega) (by omega) (by omega)) rfl ?_);(refine callF' (hX _ _ hn (by first|decide|(simp only [decide_eq_true_eq,decide_eq_false_iff_not]at *; omega))) rfl (okQ hA) ⟨?_,trivial⟩;intro ws hw;obtain ⟨⟨op,kd,nm,fd,ad,nn,vk,vi,vf,args⟩,n,rfl,hx,hn⟩:=hw);(refine VOK_lt (sub_c (z:=(d:Int)) (by omega) (by omega) (by omega)) rfl ?_);(refine callF' (hX _ _ hn (by first|decide|(simp only [decide_eq_true_eq,decide_eq_false_iff_not]at *; omega))) rfl (okQ hA) ⟨?_,trivial⟩;intro ws hw;obtain ⟨⟨op,kd,nm,fd,ad,nn,vk,vi,vf,args⟩,n,rfl,hx,hn⟩:=hw);(exact finX (x:=.mk _ _ _ _ _ _ _ _ _ [.mk _ _ _ _ _ _ _ _ _ _,.mk _ _ _ _ _ _ _ _ _ _]) rfl (WX_2 (by omega) (by assumption) (by assumption)) hn)
theorem pX {l:List UInt8} {a:AV} (hp:Pk l a):∀d:Nat,d<=100->PX l a 83 (d+1)/\PX l a 81 (d+1)
 |0,h=>by
  have h1:=p83 hp 0 h (λh=>by omega)
  exact ⟨h1,p81 hp 0 h h1 (λh=>by omega)⟩
 |d+1,h=>by
  have ih:=pX hp d (by omega)
  have h1:=p83 hp (d+1) h (λ_=>ih.2)
  exact ⟨h1,p81 hp (d+1) h h1 (λ_=>ih.2)⟩
end Go.Proofs.Ytjconanknjgpnaa.vars
