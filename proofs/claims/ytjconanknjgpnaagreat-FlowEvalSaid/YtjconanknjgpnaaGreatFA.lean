/-
  A symbol as a number, a number as a value: short names for trees.
-/
import Derived.Test.YtjconanknjgpnaaGreatSyQ
import Derived.Test.YtjconanknjgpnaaGreatRows
import Derived.KernelRfl
import Derived.Test.YtjconanknjgpnaaGreatSyU
import Derived.Test.YtjconanknjgpnaaGreatSyG
namespace Go.Proofs.YtjconanknjgpnaaGreat.vars
open Go Go.Sx
instance symN (n:Nat):OfNat AV n:=⟨.sym n⟩
abbrev J (n:Int):AV:=.int .i64 n
end Go.Proofs.YtjconanknjgpnaaGreat.vars
set_option linter.unusedVariables false
namespace Go.Proofs.YtjconanknjgpnaaGreat.vars
open Go Go.Sx
def hs:Nat->Nat->List AV
 |_,0=>[]
 |j,n+1=>.slx j 0 0::hs (j+1) n
def pk (a b:AV):Nat×List AV:=(0,[a,b])
def ft39:FT:=⟨1,⟨[(0,.ptr 0 0),(1,.slx 2 0 0)],[pk (.slx 0 0 0) (.slx 1 0 0)],1,3,[],[],[]⟩,[(false,⟨[(0,.slx 0 0 0)],[pk (.sym 64) (.slx 1 0 0)],1,2,[],[],[]⟩)]⟩
def ftX:FT:=⟨1,⟨[(0,.ptr 0 0),(1,.slx 2 0 0),(2,.slx 3 0 0)],[pk (.slx 0 0 0) (.slx 1 0 0)],1,4,[],[],[]⟩,[(false,⟨[(0,.agg (hs 0 10))],[pk (.sym 64) (.slx 10 0 0)],1,11,[],[],[]⟩)]⟩
def ft21:FT:=ftX
def ft48:FT:=ftX
def ft38:FT:=⟨1,⟨[(0,.ptr 0 0)],[pk (.slx 0 0 0) (.slx 1 0 0)],1,2,[],[],[]⟩,[(false,⟨[(0,.agg (hs 0 2))],[pk (.sym 64) (.slx 2 0 0)],1,3,[],[],[]⟩)]⟩
def ft14:FT:=⟨0,⟨[(0,.slx 0 0 0)],[],0,1,[],[],[]⟩,[(false,⟨[(0,.ptr 0 0)],[pk (.sym 64) (.int .i64 0)],1,0,[],[],[]⟩)]⟩
def ft121:FT:=⟨0,⟨[(0,.slx 0 0 0),(1,.agg (hs 1 10))],[],0,11,[],[],[]⟩,[(false,⟨[(0,.tup [.agg (hs 0 10),.slx 10 0 0])],[],0,11,[],[],[]⟩)]⟩
def ft155:FT:=ft121
def ft156:FT:=⟨0,⟨[(0,.slx 0 0 0),(1,.agg (hs 1 10)),(2,.slx 11 0 0)],[],0,12,[],[],[]⟩,[(false,⟨[(0,.tup [.agg (hs 0 10),.slx 10 0 0])],[],0,11,[],[],[]⟩)]⟩
def ft78:FT:=⟨0,⟨[(0,.slx 0 0 0),(1,.agg (hs 1 27))],[],0,28,[],[],[]⟩,[(false,⟨[(0,.tup [.agg (hs 0 27),.slx 27 0 0])],[],0,28,[],[],[]⟩)]⟩
def ft119:FT:=ft78
def ft120:FT:=ft78
def ft46:FT:=⟨0,⟨[(0,.slx 0 0 0),(1,.slx 1 0 0)],[],0,2,[],[],[]⟩,[(false,⟨[(0,.tup [.slx 0 0 0,.slx 1 0 0])],[],0,2,[],[],[]⟩)]⟩
def ft19:FT:=⟨0,⟨[(0,.agg (hs 0 2))],[],0,2,[],[],[]⟩,[(false,⟨[(0,.tup [.agg (hs 0 2),.slx 2 0 0])],[],0,3,[],[],[]⟩)]⟩
def ft163:FT:=⟨0,⟨[(0,.slx 0 0 0)],[],0,1,[],[],[]⟩,[(true,⟨[(0,.iface 226 (.agg [.slx 0 0 0]))],[],0,1,[],[],[]⟩)]⟩
def ft165:FT:=⟨0,⟨[(0,.slx 0 0 0),(1,.slx 1 0 0),(2,.slx 2 0 0)],[],0,3,[],[],[]⟩,[(false,⟨[(0,.slx 0 0 0)],[],0,1,[],[],[]⟩),(true,⟨[(0,.iface 226 (.agg [.slx 0 0 0]))],[],0,1,[],[],[]⟩)]⟩
def ft179:FT:=ft165
def ft113:FT:=⟨0,⟨[(0,.slx 0 0 0)],[],0,1,[],[],[]⟩,[(false,⟨[(0,.tup [])],[],0,0,[],[],[]⟩),(true,⟨[(0,.iface 134 (.agg [.slx 0 0 0]))],[],0,1,[],[],[]⟩)]⟩
def ft82:FT:=⟨0,⟨[(0,.slx 0 0 0),(1,.agg (hs 1 3))],[],0,4,[],[],[]⟩,[(false,⟨[(0,.agg (hs 0 3))],[],0,3,[],[],[]⟩),(true,⟨[(0,.iface 134 (.agg [.slx 0 0 0]))],[],0,1,[],[],[]⟩)]⟩
def ft83:FT:=⟨0,⟨[(0,.slx 0 0 0),(1,.slx 1 0 0)],[],0,2,[],[],[]⟩,[(false,⟨[(0,.agg (hs 0 3))],[],0,3,[],[],[]⟩),(true,⟨[(0,.iface 134 (.agg [.slx 0 0 0]))],[],0,1,[],[],[]⟩)]⟩
def ftM (sl:List (Nat×AV)) (nv:Nat) (exs:List (Bool×Nat×AV)):FT:=⟨2,⟨(0,.ptr 0 0)::sl,[(0,[.slx 1 3 0,.slx 1 0 0,.slx 2 0 0])],2,nv+3,[⟨1,3,0,0,some 0⟩],[],[]⟩,
 exs.map λ(b,n,a)=>(b,⟨[(0,a)],[(0,[.ptx 1 64 3 0,.sym 65,.sym 66])],2,n,[],[],[(1,64)]⟩)⟩
def ft49:FT:=ftM [(1,.agg (hs 3 10))] 10 [(false,3,.agg (hs 0 3)),(true,1,.iface 134 (.agg [.slx 0 0 0]))]
def ft81:FT:=ftM [(1,.agg (hs 3 10))] 10 [(false,1,.slx 0 0 0),(true,1,.iface 134 (.agg [.slx 0 0 0]))]
def ft40:FT:=⟨1,⟨[(0,.ptr 0 0),(1,.slx 2 0 0)],[pk (.slx 0 0 0) (.slx 1 0 0)],1,3,[],[],[]⟩,[(false,⟨[(0,.agg (hs 0 3))],[pk (.sym 64) (.slx 3 0 0)],1,4,[],[],[]⟩)]⟩
def ft71:FT:=⟨1,⟨[(0,.ptr 0 0)],[pk (.slx 0 0 0) (.slx 1 0 0)],1,2,[],[],[]⟩,[(false,⟨[(0,.slx 0 0 0)],[pk (.sym 64) (.slx 1 0 0)],1,2,[],[],[]⟩)]⟩
def ft72:FT:=ft39
def ft15:FT:=⟨1,⟨[(0,.ptr 0 0)],[pk (.slx 0 0 0) (.slx 1 0 0)],1,2,[],[],[]⟩,[(false,⟨[(0,.slx 1 3 0)],[pk (.sym 64) (.slx 1 0 0)],2,2,[⟨1,3,0,0,none⟩],[],[]⟩)]⟩
def ft22:FT:=⟨1,⟨[(0,.agg (hs 1 10)),(1,.slx 0 3 0)],[],1,11,[⟨0,3,0,1,none⟩],[],[]⟩,[(false,⟨[(0,.tup [.agg (hs 0 3),.slx 3 0 0])],[],1,4,[],[],[(0,64)]⟩)]⟩
def sy (n m:Nat):List AV:=symsFrom n m
end Go.Proofs.YtjconanknjgpnaaGreat.vars
set_option maxRecDepth 100000
set_option linter.unusedVariables false
set_option linter.unusedSimpArgs false
namespace Go.Proofs.YtjconanknjgpnaaGreat.vars
open Go Go.Sx
instance gI:Gl:=glT gl0 nr0 []
theorem mo:Tryz.prog.follows .mixedOrders=true:=by kernel_rfl
theorem ov:OvOk Tryz.prog:=ov_nil gl0 nr0 _
inductive GX where
 |mk (op kd:Int) (nm fd:List UInt8) (ad n vk vi:Int) (vf:Nat) (args:List GX)
mutual
def encX:GX->List AV
 | .mk op kd nm fd ad n vk vi vf args=>[.int .i64 op,.int .i64 kd,.str nm,.str fd,.int .i64 ad,.int .i64 n,.int .i64 vk,.int .i64 vi,.flt .f64 vf,encA args]
def encA:List GX->AV
 |[]=>.nsl
 |a::r=>.vsl (r.length+1) 10 (encX a++encXs r)
def encXs:List GX->List AV
 |[]=>[]
 |a::r=>encX a++encXs r
end
theorem encXs_eq:∀l:List GX,encXs l=encL encX l
 |[]=>rfl
 |a::r=>by simp only [encXs,encL,encXs_eq r]
theorem encA_eq (l:List GX):encA l=sliceOf encX 10 l:=by
 cases l with
 |nil=>rfl
 |cons a r=>simp only [encA,sliceOf,encL,encXs_eq]
theorem lenX (x:GX):(encX x).length=10:=by cases x;simp [encX]
mutual
theorem okX:∀x:GX,okL (encX x)=true
 | .mk op kd nm fd ad n vk vi vf args=>by simp only [encX,okL,okC,okA args]
theorem okA:∀l:List GX,okC (encA l)=true
 |[]=>rfl
 |a::r=>by simp only [encA,okC];exact encL_ok.okL_join (okX a) (okXs r)
theorem okXs:∀l:List GX,okL (encXs l)=true
 |[]=>rfl
 |a::r=>by simp only [encXs];exact encL_ok.okL_join (okX a) (okXs r)
end
inductive GS where
 |mk (op:Int) (to e:GX) (thn els:List GS) (nm:List UInt8) (kd ad:Int) (args:List GX)
mutual
def encS:GS->List AV
 | .mk op to e thn els nm kd ad args=>.int .i64 op::(encX to++(encX e++[encB thn,encB els,.str nm,.int .i64 kd,.int .i64 ad,encA args]))
def encB:List GS->AV
 |[]=>.nsl
 |a::r=>.vsl (r.length+1) 27 (encS a++encSs r)
def encSs:List GS->List AV
 |[]=>[]
 |a::r=>encS a++encSs r
end
theorem encSs_eq:∀l:List GS,encSs l=encL encS l
 |[]=>rfl
 |a::r=>by simp only [encSs,encL,encSs_eq r]
theorem encB_eq (l:List GS):encB l=sliceOf encS 27 l:=by
 cases l with
 |nil=>rfl
 |cons a r=>simp only [encB,sliceOf,encL,encSs_eq]
theorem lenS (x:GS):(encS x).length=27:=by cases x;simp [encS,lenX]
mutual
theorem okS:∀x:GS,okL (encS x)=true
 | .mk op to e thn els nm kd ad args=>by
   simp only [encS]
   refine encL_ok.okL_join (a:=[_]) rfl (encL_ok.okL_join (okX to) (encL_ok.okL_join (okX e) ?_))
   simp only [okL,okC,okA args,okB thn,okB els]
theorem okB:∀l:List GS,okC (encB l)=true
 |[]=>rfl
 |a::r=>by simp only [encB,okC];exact encL_ok.okL_join (okS a) (okSs r)
theorem okSs:∀l:List GS,okL (encSs l)=true
 |[]=>rfl
 |a::r=>by simp only [encSs];exact encL_ok.okL_join (okS a) (okSs r)
end
def Ari (op:Int) (n:Nat):Prop:=(op=1\/op=2)/\n=0\/(op=3\/op=15\/op=16\/op=17)/\n=1\/(4<=op/\op<=14)/\n=2
def Flt4 (f:Nat):Prop:=f=0\/f=4609434218613702656\/f=4611686018427387904\/f=4598175219545276416
def GX.op:GX->Int| .mk op .. =>op
def GX.kd:GX->Int| .mk _ kd .. =>kd
def loads:List (List UInt8×List UInt8):=[([98],[]),([113],[]),([116,109],[113]),([97],[]),([120],[]),([111],[]),([99],[99,118]),([121],[]),([116,109],[101,116]),([119],[]),([122],[])]
def LitOk (vk vi:Int) (vf:Nat):Prop:=(vk=1\/vk=3\/vk=4\/vk=5)/\0<=vi/\vi<50/\(vk=1->vi<=1)/\(vk=5->vi=0)/\(vk≠5->vf=0)
def Nod (op kd:Int) (nm fd:List UInt8) (vk vi:Int) (vf:Nat):Prop:=(op=1->LitOk vk vi vf)/\(op=2->(nm,fd)∈loads)/\(op=3->nm=[107])/\(op=17->2<=kd/\kd<=5)
def WX:Nat->GX->Prop
 |0,_=>False
 |d+1,.mk op kd nm fd _ _ vk vi vf args=>Ari op args.length/\Flt4 vf/\Nod op kd nm fd vk vi vf/\∀a∈args,WX d a
def WS:Nat->GS->Prop
 |0,_=>False
 |d+1,.mk op to e thn els nm kd ad args=>
  (op=1/\WX 5 to/\(to.op=2\/to.op=3)/\WX 6 e)\/
  ((op=2\/op=3)/\WX 5 e/\thn.length<=5/\els.length<=5/\(∀s∈thn,WS d s)/\∀s∈els,WS d s)\/
  (op=4/\(nm=[116,109]\/nm=[99]\/nm=[101])/\args.length<=2/\∀a∈args,WX 5 a)
def encC (c:UInt8):List AV:=[.int .u8 (c.toNat:Int)]
theorem lenC (c:UInt8):(encC c).length=1:=rfl
theorem okC8 (c:UInt8):okL (encC c)=true:=rfl
def Pk (l:List UInt8) (a:AV):Prop:=SlV encC 1 l a/\l.length<=9223372036854775807
section
variable {l:List UInt8} {a:AV}
theorem len22 (h:Pk l a):(XOp.len 22).run Tryz.prog [a]=some (.int .i64 (l.length:Int)):=h.1.len Tryz.underlying22
theorem ia22 (h:Pk l a) {i:Nat} (hi:i<l.length) {k:IntKind}:(XOp.iaddr 22).run Tryz.prog [a,.int k (i:Int)]=some (.vptr (encL encC (l.drop i))):=h.1.ia (e:=5) Tryz.underlying22 (ti:=(Tryz.prog.info? 5).get!) (by kernel_rfl) (by kernel_rfl) lenC hi k
theorem ld5 {i:Nat} (hi:i<l.length):(XOp.load 5).run Tryz.prog [.vptr (encL encC (l.drop i))]=some (.int .u8 (l[i].toNat:Int)):=by
 rw [List.drop_eq_getElem_cons hi]
 exact run_load_one Tryz.underlying5 rfl _ _
end
theorem cv5_3 (n:Nat) (h:n<256):(XOp.conv 5 3).run Tryz.prog [.int .u8 (n:Int)]=some (.int .i64 (n:Int)):=by
 rw [run_conv_ii Tryz.underlying5 Tryz.underlying3,wrap64 (by omega) (by omega)]
theorem run_rem (x m:Nat) (h:0<m) (h2:m<9223372036854775808) (t:TypeId) (cx cy:Bool):(XOp.bin .rem t cx cy).run Tryz.prog [.int .i64 (x:Int),.int .i64 (m:Int)]=some (.int .i64 ((x%m:Nat):Int)):=by
 have:(x:Int).tmod (m:Int)=((x%m:Nat):Int):=by
  rw [Int.tmod_eq_emod_of_nonneg (by omega)];rfl
 show evBin Tryz.prog .rem t cx cy (.int .i64 (x:Int)) (.int .i64 (m:Int))=_
 exact rem_run (by omega) this t cx cy
theorem add_c {x y:Int} {t:TypeId} {cx cy:Bool} (h1: -9223372036854775807<=x+y) (h2:x+y<=9223372036854775807):(XOp.bin .add t cx cy).run Tryz.prog [.int .i64 x,.int .i64 y]=some (.int .i64 (x+y)):=by
 rw [run_add,wrap64 (by omega) (by omega)]
theorem sub_c {x y z:Int} {t:TypeId} {cx cy:Bool} (h:x-y=z) (h1: -9223372036854775807<=z) (h2:z<=9223372036854775807):(XOp.bin .sub t cx cy).run Tryz.prog [.int .i64 x,.int .i64 y]=some (.int .i64 z):=by
 rw [run_sub,h,wrap64 (by omega) (by omega)]
def RN (l:List UInt8) (m:Nat):Nat->List AV->Prop:=λ_ ws=>∃v n:Nat,ws=[.int .i64 (v:Int),.int .i64 (n:Int)]/\v<m/\n<=l.length
def c39:VC:=⟨⟨[],[]⟩,[],[],1,true,[]⟩
def t39:VT:=
 (.lt (.len 22) [64] 67 none
 (.lt (.bin .geq 3 false false) [65,67] 68 none
 (.ite 68
 (.done (.tup [J 0,J 0,65]))
 (.lt (.bin .add 3 false true) [65,J 1] 69 none
 (.lt (.bin .sub 3 false true) [69,J 1] 70 none
 (.lt (.iaddr 22) [64,70] 71 none
 (.lt (.load 5) [71] 72 none
 (.lt (.conv 5 3) [72] 73 none
 (.lt (.bin .rem 3 false false) [73,66] 74 none
 (.done (.tup [J 0,74,69])))))))))))
theorem p39 {l:List UInt8} {a:AV} {n m:Nat} (h:Pk l a) (hn:n<=l.length) (hm:0<m) (hm2:m<=1000):CF Tryz.prog 39 ft39 [a,.int .i64 (n:Int),.int .i64 (m:Int)] (RN l m):=by
 have hb:=h.2
 refine cf_tree (c:=c39) (n:=300) (t:=t39) mo ov rfl (λY _=>known0 _) (by kernel_rfl) λY hf hg=>?_
 unfold t39
 refine VOK_lt (len22 h) rfl (VOK_lt (run_geq ..) rfl (VOK_ite rfl (λh1=>VOK_fin rfl ⟨0,n,rfl,hm,hn⟩) (λh1=>?_)))
 have h1:n<l.length:=by simpa using h1
 refine VOK_lt (add_c (by omega) (by omega)) rfl (VOK_lt (sub_c (z:=n) (by omega) (by omega) (by omega)) rfl (VOK_lt (ia22 h h1) (encL_ok okC8 _) (VOK_lt (ld5 h1) rfl (VOK_lt (cv5_3 _ (UInt8.toNat_lt _)) rfl (VOK_lt (run_rem _ _ hm (by omega) ..) rfl (VOK_fin rfl ⟨l[n].toNat%m,n+1,rfl,Nat.mod_lt _ hm,h1⟩))))))
end Go.Proofs.YtjconanknjgpnaaGreat.vars
set_option maxRecDepth 100000
set_option linter.unusedVariables false
set_option linter.unusedSimpArgs false
namespace Go.Proofs.YtjconanknjgpnaaGreat.vars
open Go Go.Sx
def RI (l:List UInt8) (m:Int):Nat->List AV->Prop:=λ_ ws=>∃v n:Nat,ws=[.int .i64 (v:Int),.int .i64 (n:Int)]/\(v:Int)<m/\n<=l.length
theorem cf_mono {f:FuncId} {ft:FT} {vs:List AV} {R R':Nat->List AV->Prop} (h:CF Tryz.prog f ft vs R) (hr:∀j ws,R j ws->R' j ws):CF Tryz.prog f ft vs R':=
 ⟨h.1,λY hf B pr E w us h1 h2 h3 h4=>(h.2 Y hf B pr E w us h1 h2 h3 h4).mono λe w' ⟨Y',r,⟨j,ws,b,tp,q1,q2,q3⟩,hp⟩=>⟨Y',r,⟨j,ws,b,tp,q1,hr _ _ q2,q3⟩,hp⟩⟩
theorem p64i {l:List UInt8} {a:AV} {n:Nat} {m:Int} (h:Pk l a) (hn:n<=l.length) (hm:0<m) (hm2:m<=1000):CF Tryz.prog 39 ft39 [a,.int .i64 (n:Int),.int .i64 m] (RI l m):=by
 have e:m=((m.toNat:Nat):Int):=by omega
 have:=p39 h hn (m:=m.toNat) (by omega) (by omega)
 rw [←e]at this
 exact cf_mono this λj ws ⟨v,n,h1,h2,h3⟩=>⟨v,n,h1,by omega,h3⟩
def RX (l:List UInt8) (d:Nat):Nat->List AV->Prop:=λ_ ws=>∃(x:GX) (n:Nat),ws=encX x++[.int .i64 (n:Int)]/\WX (d+1) x/\n<=l.length
def PX (l:List UInt8) (a:AV) (f:FuncId) (d:Nat):Prop:=∀(n:Nat) (k:Int),n<=l.length->1<=k/\k<=5->CF Tryz.prog f ftX [a,.int .i64 (n:Int),.int .i64 k,.int .i64 (d:Int)] (RX l d)
theorem WX_lit {d:Nat} {kd ad n vk vi:Int} {nm fd:List UInt8} {vf:Nat} (ho:LitOk vk vi vf) (hf:Flt4 vf):WX (d+1) (.mk 1 kd nm fd ad n vk vi vf []):=⟨.inl ⟨.inl rfl,rfl⟩,hf,⟨λ_=>ho,λh=>by omega,λh=>by omega,λh=>by omega⟩,λa ha=>(List.not_mem_nil ha).elim⟩
theorem WX_name {d:Nat} {kd ad n vk vi:Int} {nm fd:List UInt8} (ho:(nm,fd)∈loads):WX (d+1) (.mk 2 kd nm fd ad n vk vi 0 []):=⟨.inl ⟨.inr rfl,rfl⟩,.inl rfl,⟨λh=>by omega,λ_=>ho,λh=>by omega,λh=>by omega⟩,λa ha=>(List.not_mem_nil ha).elim⟩
theorem WX_1 {d:Nat} {op kd ad n vk vi:Int} {nm fd:List UInt8} {x:GX} (ho:op=3/\nm=[107]\/op=15\/op=16\/op=17/\2<=kd/\kd<=5) (h:WX d x):WX (d+1) (.mk op kd nm fd ad n vk vi 0 [x]):=by
 refine ⟨.inr (.inl ⟨by omega,rfl⟩),.inl rfl,⟨λh=>by omega,λh=>by omega,λh=>?_,λh=>by omega⟩,λa ha=>by cases List.mem_singleton.1 ha;exact h⟩
 rcases ho with ho|ho|ho|ho
 ·exact ho.2
 all_goals omega
theorem WX_2 {d:Nat} {op kd ad n vk vi:Int} {nm fd:List UInt8} {x y:GX} (ho:4<=op/\op<=14) (h:WX d x) (h2:WX d y):WX (d+1) (.mk op kd nm fd ad n vk vi 0 [x,y]):=
 ⟨.inr (.inr ⟨ho,rfl⟩),.inl rfl,⟨λh=>by omega,λh=>by omega,λh=>by omega,λh=>by omega⟩,λa ha=>by rcases List.mem_cons.1 ha with rfl|ha;exact h;cases List.mem_singleton.1 ha;exact h2⟩
theorem callF' {P:Program} {Q:AV->Prop} {L:List (Nat->List AV->Prop)} {Y:Sy} {f:FuncId} {ft:FT} {hv vs:List AV} {n:Nat} {bs:VTs} {R:Nat->List AV->Prop} (h1:CF P f ft vs R) (h0:denL Y.v hv=vs) (h2:okL vs=true) (h3:VOKb P Q R L (Y.puts n vs) (Nat.add n ft.ent.nv) 0 bs):VOK P Q L Y (.callF f ft hv n bs):=by
 subst h0;exact VOK_callF h1 h2 h3
theorem okP {a:AV} (h:okC a=true) {n m:Int}:okL [a,.int .i64 n,.int .i64 m]=true:=by simp only [okL,okC,h]
theorem okQ {a:AV} (h:okC a=true) {n m k:Int}:okL [a,.int .i64 n,.int .i64 m,.int .i64 k]=true:=by simp only [okL,okC,h]
theorem okXn (x:GX) (n:Int):okL (encX x++[.int .i64 n])=true:=encL_ok.okL_join (okX x) rfl
theorem finX {l:List UInt8} {d n j:Nat} {x:GX} {hv:List AV} {Y:Sy} {L:List (Nat->List AV->Prop)} (h:denL Y.v hv=encX x++[.int .i64 (n:Int)]) (hw:WX (d+1) x) (hn:n<=l.length):VOK Tryz.prog (QF (RX l d)) L Y (.done (.tup (.int .i64 (.ofNat j)::hv))):=
 VOK_fin (by rw [h];exact okXn x n) ⟨x,n,h,hw,hn⟩
section
variable {P:Program} {Q:AV->Prop} {L:List (Nat->List AV->Prop)} {Y:Sy} {t:TypeId} {cx cy:Bool} {args:List AV} {n:Nat} {A B:VT} {k:IntKind} {a b:Int}
def cmpB:BinOp->Int->Int->Bool
 | .eql,a,b=>decide (a=b)
 | .neq,a,b=> !decide (a=b)
 | .lss,a,b=>decide (a<b)
 | .gtr,a,b=>decide (b<a)
 | .leq,a,b=>decide (a<=b)
 |_,_,_=>false
theorem it_b {op:BinOp} (h0:denL Y.v args=[.int k a,.int k b]) (ho:(match op with| .eql=>true| .neq=>true| .lss=>true| .gtr=>true| .leq=>true|_=>false)=true)
  (h1:cmpB op a b=true->VOK P Q L (Y.put n (.bool (cmpB op a b))) A) (h2:cmpB op a b=false->VOK P Q L (Y.put n (.bool (cmpB op a b))) B):VOK P Q L Y (.lt (.bin op t cx cy) args n none (.ite n A B)):=by
 have hr:(XOp.bin op t cx cy).run P [.int k a,.int k b]=some (.bool (cmpB op a b)):=by
  cases op<;>simp only at ho<;>first|(cases ho;done)|skip
  ·exact run_eql ..
  ·exact run_neq ..
  ·exact run_lss ..
  ·exact run_leq ..
  ·exact run_gtr ..
 exact VOK_lt (by rw [h0];exact hr) rfl (VOK_ite (t:=cmpB op a b) (by rw [put_v,if_pos rfl]) h1 h2)
end
def c48:VC:=⟨⟨[],[]⟩,[],[],1,true,[(39,ft39),(21,ft21)]⟩
def t48:VT:=
 (.callF 39 ft39 [64,65,J 4] 68
 (.cons 2
 (.lt (.bin .eql 3 false true) [66,J 1] 73 none
 (.ite 73
 (.callF 39 ft39 [64,72,J 2] 74
 (.cons 2
 (.lt (.iaddr 47) [.vsl 4 10 [J 2,J 0,.str [98],.str [],J 0,J 0,J 0,J 0,.flt .f64 0,.nsl,J 2,J 0,.str [113],.str [],J 0,J 0,J 0,J 0,.flt .f64 0,.nsl,J 2,J 0,.str [116,109],.str [113],J 0,J 0,J 0,J 0,.flt .f64 0,.nsl,J 1,J 0,.str [],.str [],J 0,J 0,J 1,77,.flt .f64 0,.nsl],71] 79 none
 (.lt (.load 49) [79] 80 (some 10)
 (.done (.tup [J 0,80,81,82,83,84,85,86,87,88,89,78]))))
 .nil))
 (.lt (.bin .eql 3 false true) [66,J 2] 74 none
 (.ite 74
 (.lt (.bin .eql 3 false true) [71,J 0] 75 none
 (.ite 75
 (.lt (.bin .gtr 3 false true) [67,J 1] 76 none
 (.ite 76
 (.lt (.bin .sub 3 false true) [67,J 1] 77 none
 (.callF 21 ft21 [64,72,J 2,77] 78
 (.cons 11
 (.done (.tup [J 0,J 3,J 0,.str [107],.str [],J 0,J 0,J 0,J 0,.flt .f64 0,.vsl 1 10 [82,83,84,85,86,87,88,89,90,91],92]))
 .nil)))
 (.lt (.bin .lss 3 false true) [71,J 2] 77 none
 (.ite 77
 (.callF 39 ft39 [64,72,J 7] 78
 (.cons 2
 (.done (.tup [J 0,J 17,J 2,.str [],.str [],J 0,J 0,J 0,J 0,.flt .f64 0,.vsl 1 10 [J 1,J 0,.str [],.str [],J 0,J 0,J 3,81,.flt .f64 0,.nsl],82]))
 .nil))
 (.callF 39 ft39 [64,72,J 4] 78
 (.cons 2
 (.lt (.iaddr 47) [.vsl 4 10 [J 2,J 0,.str [97],.str [],J 0,J 0,J 0,J 0,.flt .f64 0,.nsl,J 2,J 0,.str [120],.str [],J 0,J 0,J 0,J 0,.flt .f64 0,.nsl,J 2,J 0,.str [111],.str [],J 0,J 0,J 0,J 0,.flt .f64 0,.nsl,J 2,J 0,.str [99],.str [99,118],J 0,J 0,J 0,J 0,.flt .f64 0,.nsl],81] 83 none
 (.lt (.load 49) [83] 84 (some 10)
 (.done (.tup [J 0,84,85,86,87,88,89,90,91,92,93,82]))))
 .nil))))))
 (.lt (.bin .lss 3 false true) [71,J 2] 76 none
 (.ite 76
 (.callF 39 ft39 [64,72,J 7] 77
 (.cons 2
 (.done (.tup [J 0,J 17,J 2,.str [],.str [],J 0,J 0,J 0,J 0,.flt .f64 0,.vsl 1 10 [J 1,J 0,.str [],.str [],J 0,J 0,J 3,80,.flt .f64 0,.nsl],81]))
 .nil))
 (.callF 39 ft39 [64,72,J 4] 77
 (.cons 2
 (.lt (.iaddr 47) [.vsl 4 10 [J 2,J 0,.str [97],.str [],J 0,J 0,J 0,J 0,.flt .f64 0,.nsl,J 2,J 0,.str [120],.str [],J 0,J 0,J 0,J 0,.flt .f64 0,.nsl,J 2,J 0,.str [111],.str [],J 0,J 0,J 0,J 0,.flt .f64 0,.nsl,J 2,J 0,.str [99],.str [99,118],J 0,J 0,J 0,J 0,.flt .f64 0,.nsl],80] 82 none
 (.lt (.load 49) [82] 83 (some 10)
 (.done (.tup [J 0,83,84,85,86,87,88,89,90,91,92,81]))))
 .nil))))))
 (.lt (.bin .eql 3 false true) [66,J 3] 75 none
 (.ite 75
 (.lt (.bin .lss 3 false true) [71,J 2] 76 none
 (.ite 76
 (.callF 39 ft39 [64,72,J 9] 77
 (.cons 2
 (.done (.tup [J 0,J 1,J 0,.str [],.str [],J 0,J 0,J 3,80,.flt .f64 0,.nsl,81]))
 .nil))
 (.done (.tup [J 0,J 2,J 0,.str [121],.str [],J 0,J 0,J 0,J 0,.flt .f64 0,.nsl,72]))))
 (.lt (.bin .eql 3 false true) [66,J 4] 76 none
 (.ite 76
 (.lt (.bin .eql 3 false true) [71,J 0] 77 none
 (.ite 77
 (.done (.tup [J 0,J 2,J 0,.str [116,109],.str [101,116],J 0,J 0,J 0,J 0,.flt .f64 0,.nsl,72]))
 (.lt (.bin .eql 3 false true) [71,J 1] 78 none
 (.ite 78
 (.callF 39 ft39 [64,72,J 50] 79
 (.cons 2
 (.done (.tup [J 0,J 1,J 0,.str [],.str [],J 0,J 0,J 4,82,.flt .f64 0,.nsl,83]))
 .nil))
 (.done (.tup [J 0,J 2,J 0,.str [119],.str [],J 0,J 0,J 0,J 0,.flt .f64 0,.nsl,72]))))))
 (.lt (.bin .lss 3 false true) [71,J 2] 77 none
 (.ite 77
 (.callF 39 ft39 [64,72,J 4] 78
 (.cons 2
 (.lt (.iaddr 143) [.vsl 4 1 [.flt .f64 0,.flt .f64 4609434218613702656,.flt .f64 4611686018427387904,.flt .f64 4598175219545276416],81] 83 none
 (.lt (.load 44) [83] 84 none
 (.done (.tup [J 0,J 1,J 0,.str [],.str [],J 0,J 0,J 5,J 0,84,.nsl,82]))))
 .nil))
 (.done (.tup [J 0,J 2,J 0,.str [122],.str [],J 0,J 0,J 0,J 0,.flt .f64 0,.nsl,72]))))))))))))
 .nil))
def c21:VC:=⟨⟨[],[]⟩,[],[],1,true,[(39,ft39),(21,ft21),(48,ft48)]⟩
def t21:VT:=
 (.lt (.bin .leq 3 false true) [67,J 1] 68 none
 (.ite 68
 (.callF 48 ft48 [64,65,66,67] 69
 (.cons 11
 (.done (.tup [J 0,73,74,75,76,77,78,79,80,81,82,83]))
 .nil))
 (.callF 39 ft39 [64,65,J 4] 69
 (.cons 2
 (.lt (.bin .eql 3 false true) [72,J 0] 74 none
 (.ite 74
 (.callF 48 ft48 [64,73,66,67] 75
 (.cons 11
 (.done (.tup [J 0,79,80,81,82,83,84,85,86,87,88,89]))
 .nil))
 (.lt (.bin .eql 3 false true) [66,J 1] 75 none
 (.ite 75
 (.callF 39 ft39 [64,73,J 5] 76
 (.cons 2
 (.lt (.bin .eql 3 false true) [79,J 0] 81 none
 (.ite 81
 (.lt (.bin .sub 3 false true) [67,J 1] 82 none
 (.callF 21 ft21 [64,80,J 1,82] 83
 (.cons 11
 (.done (.tup [J 0,J 15,J 0,.str [],.str [],J 0,J 0,J 0,J 0,.flt .f64 0,.vsl 1 10 [87,88,89,90,91,92,93,94,95,96],97]))
 .nil)))
 (.lt (.bin .eql 3 false true) [79,J 1] 82 none
 (.ite 82
 (.callF 39 ft39 [64,80,J 2] 83
 (.cons 2
 (.lt (.bin .add 3 true false) [J 13,86] 88 none
 (.lt (.bin .sub 3 false true) [67,J 1] 89 none
 (.callF 21 ft21 [64,87,J 1,89] 90
 (.cons 11
 (.lt (.bin .sub 3 false true) [67,J 1] 105 none
 (.callF 21 ft21 [64,104,J 1,105] 106
 (.cons 11
 (.done (.tup [J 0,88,J 0,.str [],.str [],J 0,J 0,J 0,J 0,.flt .f64 0,.vsl 2 10 [94,95,96,97,98,99,100,101,102,103,110,111,112,113,114,115,116,117,118,119],120]))
 .nil)))
 .nil))))
 .nil))
 (.callF 39 ft39 [64,80,J 4] 83
 (.cons 2
 (.lt (.bin .add 3 true false) [J 2,86] 88 none
 (.callF 39 ft39 [64,87,J 4] 89
 (.cons 2
 (.lt (.bin .add 3 true false) [J 9,92] 94 none
 (.lt (.bin .sub 3 false true) [67,J 1] 95 none
 (.callF 21 ft21 [64,93,88,95] 96
 (.cons 11
 (.lt (.bin .sub 3 false true) [67,J 1] 111 none
 (.callF 21 ft21 [64,110,88,111] 112
 (.cons 11
 (.done (.tup [J 0,94,J 0,.str [],.str [],J 0,J 0,J 0,J 0,.flt .f64 0,.vsl 2 10 [100,101,102,103,104,105,106,107,108,109,116,117,118,119,120,121,122,123,124,125],126]))
 .nil)))
 .nil))))
 .nil)))
 .nil))))))
 .nil))
 (.callF 39 ft39 [64,73,J 9] 76
 (.cons 2
 (.lt (.bin .eql 3 false true) [79,J 0] 81 none
 (.ite 81
 (.lt (.bin .sub 3 false true) [67,J 1] 82 none
 (.callF 21 ft21 [64,80,66,82] 83
 (.cons 11
 (.done (.tup [J 0,J 16,J 0,.str [],.str [],J 0,J 0,J 0,J 0,.flt .f64 0,.vsl 1 10 [87,88,89,90,91,92,93,94,95,96],97]))
 .nil)))
 (.lt (.bin .eql 3 false true) [79,J 1] 82 none
 (.ite 82
 (.callF 39 ft39 [64,80,J 4] 83
 (.cons 2
 (.lt (.bin .add 3 true false) [J 2,86] 88 none
 (.lt (.bin .sub 3 false true) [67,J 1] 89 none
 (.callF 21 ft21 [64,87,88,89] 90
 (.cons 11
 (.done (.tup [J 0,J 17,66,.str [],.str [],J 0,J 0,J 0,J 0,.flt .f64 0,.vsl 1 10 [94,95,96,97,98,99,100,101,102,103],104]))
 .nil))))
 .nil))
 (.lt (.bin .eql 3 false true) [79,J 2] 83 none
 (.ite 83
 (.lt (.bin .neq 3 false true) [66,J 5] 84 none
 (.ite 84
 (.lt (.bin .sub 3 false true) [67,J 1] 85 none
 (.callF 21 ft21 [64,80,66,85] 86
 (.cons 11
 (.lt (.bin .sub 3 false true) [67,J 1] 101 none
 (.callF 21 ft21 [64,100,66,101] 102
 (.cons 11
 (.done (.tup [J 0,J 8,J 0,.str [],.str [],J 0,J 0,J 0,J 0,.flt .f64 0,.vsl 2 10 [90,91,92,93,94,95,96,97,98,99,106,107,108,109,110,111,112,113,114,115],116]))
 .nil)))
 .nil)))
 (.callF 39 ft39 [64,80,J 4] 85
 (.cons 2
 (.lt (.bin .add 3 true false) [J 4,88] 90 none
 (.lt (.bin .sub 3 false true) [67,J 1] 91 none
 (.callF 21 ft21 [64,89,66,91] 92
 (.cons 11
 (.lt (.bin .sub 3 false true) [67,J 1] 107 none
 (.callF 21 ft21 [64,106,66,107] 108
 (.cons 11
 (.done (.tup [J 0,90,J 0,.str [],.str [],J 0,J 0,J 0,J 0,.flt .f64 0,.vsl 2 10 [96,97,98,99,100,101,102,103,104,105,112,113,114,115,116,117,118,119,120,121],122]))
 .nil)))
 .nil))))
 .nil))))
 (.callF 39 ft39 [64,80,J 4] 84
 (.cons 2
 (.lt (.bin .add 3 true false) [J 4,87] 89 none
 (.lt (.bin .sub 3 false true) [67,J 1] 90 none
 (.callF 21 ft21 [64,88,66,90] 91
 (.cons 11
 (.lt (.bin .sub 3 false true) [67,J 1] 106 none
 (.callF 21 ft21 [64,105,66,106] 107
 (.cons 11
 (.done (.tup [J 0,89,J 0,.str [],.str [],J 0,J 0,J 0,J 0,.flt .f64 0,.vsl 2 10 [95,96,97,98,99,100,101,102,103,104,111,112,113,114,115,116,117,118,119,120],121]))
 .nil)))
 .nil))))
 .nil))))))))
 .nil))))))
 .nil))))
theorem p48 {l:List UInt8} {a:AV} (hp:Pk l a) (d:Nat) (hd2:d<=100) (hX:1<=d->PX l a 21 d):PX l a 48 (d+1):=by
 intro n k hn hk
 have hA:=hp.1.ok okC8
 refine cf_tree (c:=c48) (n:=300) (t:=t48) mo ov rfl (λY _=>known0 _) (by kernel_rfl) λY hf hg=>?_
 unfold t48
 have f7:∀v:Nat,(v:Int)<7->WX (d+1+1) (.mk 17 2 [] [] 0 0 0 0 0 [.mk 1 0 [] [] 0 0 3 (v:Int) 0 []]):=λv hv=>WX_1 (by decide) (WX_lit (by unfold LitOk;omega) (.inl rfl))
 (refine callF' (p64i hp hn (by first|decide|omega) (by first|decide|omega)) rfl (okP hA) ⟨?_,trivial⟩;intro ws hw;rcases hw with ⟨v,n,rfl,hv,hn⟩)
 (refine it_b rfl rfl (λh=>?_) (λh=>?_)<;>rw [cmpB]at h)
 ·((have e4:v=0\/v=1\/v=2\/v=3:=by omega);rcases e4 with rfl|rfl|rfl|rfl)
  all_goals (refine callF' (p64i hp hn (by first|decide|omega) (by first|decide|omega)) rfl (okP hA) ⟨?_,trivial⟩;intro ws hw;rcases hw with ⟨v,n,rfl,hv,hn⟩);refine VOK_lt rfl rfl (VOK_ltN rfl rfl rfl ?_);(first
                                                                                                                                                                                                               |exact finX (x:=.mk 2 _ _ _ _ _ _ _ _ []) rfl (WX_name (by decide)) hn
                                                                                                                                                                                                               |exact finX (x:=.mk 1 _ _ _ _ _ _ _ _ []) rfl (WX_lit (by unfold LitOk;omega) (by first|exact .inl rfl|exact .inr (.inl rfl)|exact .inr (.inr (.inl rfl))|exact .inr (.inr (.inr rfl)))) hn)
 (refine it_b rfl rfl (λh=>?_) (λh=>?_)<;>rw [cmpB]at h)
 ·(refine it_b rfl rfl (λh=>?_) (λh=>?_)<;>rw [cmpB]at h)
  ·(refine it_b rfl rfl (λh=>?_) (λh=>?_)<;>rw [cmpB]at h)
   ·have hd1:1<=d:=by simp at h;omega
    refine VOK_lt (sub_c (z:=(d:Int)) (by omega) (by omega) (by omega)) rfl ?_
    (refine callF' ((hX hd1) _ _ hn (by first|decide|(simp only [decide_eq_true_eq,decide_eq_false_iff_not]at *; omega))) rfl (okQ hA) ⟨?_,trivial⟩;intro ws hw;obtain ⟨⟨op,kd,nm,fd,ad,nn,vk,vi,vf,args⟩,n,rfl,hx,hn⟩:=hw)
    (exact finX (x:=.mk _ _ _ _ _ _ _ _ _ [.mk _ _ _ _ _ _ _ _ _ _]) rfl (WX_1 (by first|decide|(refine .inr (.inr (.inr ⟨rfl,?_,?_⟩))<;>(simp only [decide_eq_true_eq,decide_eq_false_iff_not]at *; omega))) (by assumption)) hn)
   ·(refine it_b rfl rfl (λh=>?_) (λh=>?_)<;>rw [cmpB]at h)
    ·(refine callF' (p64i hp hn (by first|decide|omega) (by first|decide|omega)) rfl (okP hA) ⟨?_,trivial⟩;intro ws hw;rcases hw with ⟨v,n,rfl,hv,hn⟩)
     exact finX (x:=.mk _ _ _ _ _ _ _ _ _ [.mk _ _ _ _ _ _ _ _ _ []]) rfl (f7 _ hv) hn
    ·(refine callF' (p64i hp hn (by first|decide|omega) (by first|decide|omega)) rfl (okP hA) ⟨?_,trivial⟩;intro ws hw;rcases hw with ⟨v,n,rfl,hv,hn⟩);((have e4:v=0\/v=1\/v=2\/v=3:=by omega);rcases e4 with rfl|rfl|rfl|rfl)
     all_goals refine VOK_lt rfl rfl (VOK_ltN rfl rfl rfl ?_);(first
                                                                |exact finX (x:=.mk 2 _ _ _ _ _ _ _ _ []) rfl (WX_name (by decide)) hn
                                                                |exact finX (x:=.mk 1 _ _ _ _ _ _ _ _ []) rfl (WX_lit (by unfold LitOk;omega) (by first|exact .inl rfl|exact .inr (.inl rfl)|exact .inr (.inr (.inl rfl))|exact .inr (.inr (.inr rfl)))) hn)
  ·(refine it_b rfl rfl (λh=>?_) (λh=>?_)<;>rw [cmpB]at h)
   ·(refine callF' (p64i hp hn (by first|decide|omega) (by first|decide|omega)) rfl (okP hA) ⟨?_,trivial⟩;intro ws hw;rcases hw with ⟨v,n,rfl,hv,hn⟩)
    exact finX (x:=.mk _ _ _ _ _ _ _ _ _ [.mk _ _ _ _ _ _ _ _ _ []]) rfl (f7 _ hv) hn
   ·(refine callF' (p64i hp hn (by first|decide|omega) (by first|decide|omega)) rfl (okP hA) ⟨?_,trivial⟩;intro ws hw;rcases hw with ⟨v,n,rfl,hv,hn⟩);((have e4:v=0\/v=1\/v=2\/v=3:=by omega);rcases e4 with rfl|rfl|rfl|rfl)
    all_goals refine VOK_lt rfl rfl (VOK_ltN rfl rfl rfl ?_);(first
                                                               |exact finX (x:=.mk 2 _ _ _ _ _ _ _ _ []) rfl (WX_name (by decide)) hn
                                                               |exact finX (x:=.mk 1 _ _ _ _ _ _ _ _ []) rfl (WX_lit (by unfold LitOk;omega) (by first|exact .inl rfl|exact .inr (.inl rfl)|exact .inr (.inr (.inl rfl))|exact .inr (.inr (.inr rfl)))) hn)
 (refine it_b rfl rfl (λh=>?_) (λh=>?_)<;>rw [cmpB]at h)
 ·(refine it_b rfl rfl (λh=>?_) (λh=>?_)<;>rw [cmpB]at h)
  ·(refine callF' (p64i hp hn (by first|decide|omega) (by first|decide|omega)) rfl (okP hA) ⟨?_,trivial⟩;intro ws hw;rcases hw with ⟨v,n,rfl,hv,hn⟩);(first
                                                                                                                                                       |exact finX (x:=.mk 2 _ _ _ _ _ _ _ _ []) rfl (WX_name (by decide)) hn
                                                                                                                                                       |exact finX (x:=.mk 1 _ _ _ _ _ _ _ _ []) rfl (WX_lit (by unfold LitOk;omega) (by first|exact .inl rfl|exact .inr (.inl rfl)|exact .inr (.inr (.inl rfl))|exact .inr (.inr (.inr rfl)))) hn)
  ·(first
     |exact finX (x:=.mk 2 _ _ _ _ _ _ _ _ []) rfl (WX_name (by decide)) hn
     |exact finX (x:=.mk 1 _ _ _ _ _ _ _ _ []) rfl (WX_lit (by unfold LitOk;omega) (by first|exact .inl rfl|exact .inr (.inl rfl)|exact .inr (.inr (.inl rfl))|exact .inr (.inr (.inr rfl)))) hn)
 (refine it_b rfl rfl (λh=>?_) (λh=>?_)<;>rw [cmpB]at h)
 ·(refine it_b rfl rfl (λh=>?_) (λh=>?_)<;>rw [cmpB]at h)
  ·(first
     |exact finX (x:=.mk 2 _ _ _ _ _ _ _ _ []) rfl (WX_name (by decide)) hn
     |exact finX (x:=.mk 1 _ _ _ _ _ _ _ _ []) rfl (WX_lit (by unfold LitOk;omega) (by first|exact .inl rfl|exact .inr (.inl rfl)|exact .inr (.inr (.inl rfl))|exact .inr (.inr (.inr rfl)))) hn)
  ·(refine it_b rfl rfl (λh=>?_) (λh=>?_)<;>rw [cmpB]at h)
   ·(refine callF' (p64i hp hn (by first|decide|omega) (by first|decide|omega)) rfl (okP hA) ⟨?_,trivial⟩;intro ws hw;rcases hw with ⟨v,n,rfl,hv,hn⟩);(first
                                                                                                                                                        |exact finX (x:=.mk 2 _ _ _ _ _ _ _ _ []) rfl (WX_name (by decide)) hn
                                                                                                                                                        |exact finX (x:=.mk 1 _ _ _ _ _ _ _ _ []) rfl (WX_lit (by unfold LitOk;omega) (by first|exact .inl rfl|exact .inr (.inl rfl)|exact .inr (.inr (.inl rfl))|exact .inr (.inr (.inr rfl)))) hn)
   ·(first
      |exact finX (x:=.mk 2 _ _ _ _ _ _ _ _ []) rfl (WX_name (by decide)) hn
      |exact finX (x:=.mk 1 _ _ _ _ _ _ _ _ []) rfl (WX_lit (by unfold LitOk;omega) (by first|exact .inl rfl|exact .inr (.inl rfl)|exact .inr (.inr (.inl rfl))|exact .inr (.inr (.inr rfl)))) hn)
 (refine it_b rfl rfl (λh=>?_) (λh=>?_)<;>rw [cmpB]at h)
 ·(refine callF' (p64i hp hn (by first|decide|omega) (by first|decide|omega)) rfl (okP hA) ⟨?_,trivial⟩;intro ws hw;rcases hw with ⟨v,n,rfl,hv,hn⟩);((have e4:v=0\/v=1\/v=2\/v=3:=by omega);rcases e4 with rfl|rfl|rfl|rfl)
  all_goals refine VOK_lt rfl rfl (VOK_lt rfl rfl ?_);(first
                                                        |exact finX (x:=.mk 2 _ _ _ _ _ _ _ _ []) rfl (WX_name (by decide)) hn
                                                        |exact finX (x:=.mk 1 _ _ _ _ _ _ _ _ []) rfl (WX_lit (by unfold LitOk;omega) (by first|exact .inl rfl|exact .inr (.inl rfl)|exact .inr (.inr (.inl rfl))|exact .inr (.inr (.inr rfl)))) hn)
 ·(first
    |exact finX (x:=.mk 2 _ _ _ _ _ _ _ _ []) rfl (WX_name (by decide)) hn
    |exact finX (x:=.mk 1 _ _ _ _ _ _ _ _ []) rfl (WX_lit (by unfold LitOk;omega) (by first|exact .inl rfl|exact .inr (.inl rfl)|exact .inr (.inr (.inl rfl))|exact .inr (.inr (.inr rfl)))) hn)
theorem p21 {l:List UInt8} {a:AV} (hp:Pk l a) (d:Nat) (hd2:d<=100) (h83:PX l a 48 (d+1)) (h81:1<=d->PX l a 21 d):PX l a 21 (d+1):=by
 intro n k hn hk
 have hA:=hp.1.ok okC8
 refine cf_tree (c:=c21) (n:=300) (t:=t21) mo ov rfl (λY _=>known0 _) (by kernel_rfl) λY hf hg=>?_
 unfold t21
 (refine it_b rfl rfl (λh=>?_) (λh=>?_)<;>rw [cmpB]at h)
 ·(refine callF' (h83 _ _ hn (by first|decide|(simp only [decide_eq_true_eq,decide_eq_false_iff_not]at *; omega))) rfl (okQ hA) ⟨?_,trivial⟩;intro ws hw;obtain ⟨⟨op,kd,nm,fd,ad,nn,vk,vi,vf,args⟩,n,rfl,hx,hn⟩:=hw);exact finX (x:=.mk _ _ _ _ _ _ _ _ _ _) rfl hx hn
 have hX:=h81 (by simp at h;omega)
 (refine callF' (p64i hp hn (by first|decide|omega) (by first|decide|omega)) rfl (okP hA) ⟨?_,trivial⟩;intro ws hw;rcases hw with ⟨v,n,rfl,hv,hn⟩);(refine it_b rfl rfl (λh=>?_) (λh=>?_)<;>rw [cmpB]at h)
 ·(refine callF' (h83 _ _ hn (by first|decide|(simp only [decide_eq_true_eq,decide_eq_false_iff_not]at *; omega))) rfl (okQ hA) ⟨?_,trivial⟩;intro ws hw;obtain ⟨⟨op,kd,nm,fd,ad,nn,vk,vi,vf,args⟩,n,rfl,hx,hn⟩:=hw);exact finX (x:=.mk _ _ _ _ _ _ _ _ _ _) rfl hx hn
 (refine it_b rfl rfl (λh=>?_) (λh=>?_)<;>rw [cmpB]at h)
 ·(refine callF' (p64i hp hn (by first|decide|omega) (by first|decide|omega)) rfl (okP hA) ⟨?_,trivial⟩;intro ws hw;rcases hw with ⟨v,n,rfl,hv,hn⟩);(refine it_b rfl rfl (λh=>?_) (λh=>?_)<;>rw [cmpB]at h)
  ·(refine VOK_lt (sub_c (z:=(d:Int)) (by omega) (by omega) (by omega)) rfl ?_);(refine callF' (hX _ _ hn (by first|decide|(simp only [decide_eq_true_eq,decide_eq_false_iff_not]at *; omega))) rfl (okQ hA) ⟨?_,trivial⟩;intro ws hw;obtain ⟨⟨op,kd,nm,fd,ad,nn,vk,vi,vf,args⟩,n,rfl,hx,hn⟩:=hw);(exact finX (x:=.mk _ _ _ _ _ _ _ _ _ [.mk _ _ _ _ _ _ _ _ _ _]) rfl (WX_1 (by first|decide|(refine .inr (.inr (.inr ⟨rfl,?_,?_⟩))<;>(simp only [decide_eq_true_eq,decide_eq_false_iff_not]at *; omega))) (by assumption)) hn)
  (refine it_b rfl rfl (λh=>?_) (λh=>?_)<;>rw [cmpB]at h)
  ·(refine callF' (p64i hp hn (by first|decide|omega) (by first|decide|omega)) rfl (okP hA) ⟨?_,trivial⟩;intro ws hw;rcases hw with ⟨v,n,rfl,hv,hn⟩);(refine VOK_lt (add_c (by omega) (by omega)) rfl ?_);(refine VOK_lt (sub_c (z:=(d:Int)) (by omega) (by omega) (by omega)) rfl ?_);(refine callF' (hX _ _ hn (by first|decide|(simp only [decide_eq_true_eq,decide_eq_false_iff_not]at *; omega))) rfl (okQ hA) ⟨?_,trivial⟩;intro ws hw;obtain ⟨⟨op,kd,nm,fd,ad,nn,vk,vi,vf,args⟩,n,rfl,hx,hn⟩:=hw);(refine VOK_lt (sub_c (z:=(d:Int)) (by omega) (by omega) (by omega)) rfl ?_);(refine callF' (hX _ _ hn (by first|decide|(simp only [decide_eq_true_eq,decide_eq_false_iff_not]at *; omega))) rfl (okQ hA) ⟨?_,trivial⟩;intro ws hw;obtain ⟨⟨op,kd,nm,fd,ad,nn,vk,vi,vf,args⟩,n,rfl,hx,hn⟩:=hw);(exact finX (x:=.mk _ _ _ _ _ _ _ _ _ [.mk _ _ _ _ _ _ _ _ _ _,.mk _ _ _ _ _ _ _ _ _ _]) rfl (WX_2 (by omega) (by assumption) (by assumption)) hn)
  ·(refine callF' (p64i hp hn (by first|decide|omega) (by first|decide|omega)) rfl (okP hA) ⟨?_,trivial⟩;intro ws hw;rcases hw with ⟨v,n,rfl,hv,hn⟩);(refine VOK_lt (add_c (by omega) (by omega)) rfl ?_);(refine callF' (p64i hp hn (by first|decide|omega) (by first|decide|omega)) rfl (okP hA) ⟨?_,trivial⟩;intro ws hw;rcases hw with ⟨v,n,rfl,hv,hn⟩);(refine VOK_lt (add_c (by omega) (by omega)) rfl ?_);(refine VOK_lt (sub_c (z:=(d:Int)) (by omega) (by omega) (by omega)) rfl ?_);(refine callF' (hX _ _ hn (by first|decide|(simp only [decide_eq_true_eq,decide_eq_false_iff_not]at *; omega))) rfl (okQ hA) ⟨?_,trivial⟩;intro ws hw;obtain ⟨⟨op,kd,nm,fd,ad,nn,vk,vi,vf,args⟩,n,rfl,hx,hn⟩:=hw);(refine VOK_lt (sub_c (z:=(d:Int)) (by omega) (by omega) (by omega)) rfl ?_);(refine callF' (hX _ _ hn (by first|decide|(simp only [decide_eq_true_eq,decide_eq_false_iff_not]at *; omega))) rfl (okQ hA) ⟨?_,trivial⟩;intro ws hw;obtain ⟨⟨op,kd,nm,fd,ad,nn,vk,vi,vf,args⟩,n,rfl,hx,hn⟩:=hw);(exact finX (x:=.mk _ _ _ _ _ _ _ _ _ [.mk _ _ _ _ _ _ _ _ _ _,.mk _ _ _ _ _ _ _ _ _ _]) rfl (WX_2 (by omega) (by assumption) (by assumption)) hn)
 ·(refine callF' (p64i hp hn (by first|decide|omega) (by first|decide|omega)) rfl (okP hA) ⟨?_,trivial⟩;intro ws hw;rcases hw with ⟨v,n,rfl,hv,hn⟩);(refine it_b rfl rfl (λh=>?_) (λh=>?_)<;>rw [cmpB]at h)
  ·(refine VOK_lt (sub_c (z:=(d:Int)) (by omega) (by omega) (by omega)) rfl ?_);(refine callF' (hX _ _ hn (by first|decide|(simp only [decide_eq_true_eq,decide_eq_false_iff_not]at *; omega))) rfl (okQ hA) ⟨?_,trivial⟩;intro ws hw;obtain ⟨⟨op,kd,nm,fd,ad,nn,vk,vi,vf,args⟩,n,rfl,hx,hn⟩:=hw);(exact finX (x:=.mk _ _ _ _ _ _ _ _ _ [.mk _ _ _ _ _ _ _ _ _ _]) rfl (WX_1 (by first|decide|(refine .inr (.inr (.inr ⟨rfl,?_,?_⟩))<;>(simp only [decide_eq_true_eq,decide_eq_false_iff_not]at *; omega))) (by assumption)) hn)
  (refine it_b rfl rfl (λh=>?_) (λh=>?_)<;>rw [cmpB]at h)
  ·(refine callF' (p64i hp hn (by first|decide|omega) (by first|decide|omega)) rfl (okP hA) ⟨?_,trivial⟩;intro ws hw;rcases hw with ⟨v,n,rfl,hv,hn⟩);(refine VOK_lt (add_c (by omega) (by omega)) rfl ?_);(refine VOK_lt (sub_c (z:=(d:Int)) (by omega) (by omega) (by omega)) rfl ?_);(refine callF' (hX _ _ hn (by first|decide|(simp only [decide_eq_true_eq,decide_eq_false_iff_not]at *; omega))) rfl (okQ hA) ⟨?_,trivial⟩;intro ws hw;obtain ⟨⟨op,kd,nm,fd,ad,nn,vk,vi,vf,args⟩,n,rfl,hx,hn⟩:=hw);(exact finX (x:=.mk _ _ _ _ _ _ _ _ _ [.mk _ _ _ _ _ _ _ _ _ _]) rfl (WX_1 (by first|decide|(refine .inr (.inr (.inr ⟨rfl,?_,?_⟩))<;>(simp only [decide_eq_true_eq,decide_eq_false_iff_not]at *; omega))) (by assumption)) hn)
  (refine it_b rfl rfl (λh=>?_) (λh=>?_)<;>rw [cmpB]at h)
  ·(refine it_b rfl rfl (λh=>?_) (λh=>?_)<;>rw [cmpB]at h)
   ·(refine VOK_lt (sub_c (z:=(d:Int)) (by omega) (by omega) (by omega)) rfl ?_);(refine callF' (hX _ _ hn (by first|decide|(simp only [decide_eq_true_eq,decide_eq_false_iff_not]at *; omega))) rfl (okQ hA) ⟨?_,trivial⟩;intro ws hw;obtain ⟨⟨op,kd,nm,fd,ad,nn,vk,vi,vf,args⟩,n,rfl,hx,hn⟩:=hw);(refine VOK_lt (sub_c (z:=(d:Int)) (by omega) (by omega) (by omega)) rfl ?_);(refine callF' (hX _ _ hn (by first|decide|(simp only [decide_eq_true_eq,decide_eq_false_iff_not]at *; omega))) rfl (okQ hA) ⟨?_,trivial⟩;intro ws hw;obtain ⟨⟨op,kd,nm,fd,ad,nn,vk,vi,vf,args⟩,n,rfl,hx,hn⟩:=hw);(exact finX (x:=.mk _ _ _ _ _ _ _ _ _ [.mk _ _ _ _ _ _ _ _ _ _,.mk _ _ _ _ _ _ _ _ _ _]) rfl (WX_2 (by omega) (by assumption) (by assumption)) hn)
   ·(refine callF' (p64i hp hn (by first|decide|omega) (by first|decide|omega)) rfl (okP hA) ⟨?_,trivial⟩;intro ws hw;rcases hw with ⟨v,n,rfl,hv,hn⟩);(refine VOK_lt (add_c (by omega) (by omega)) rfl ?_);(refine VOK_lt (sub_c (z:=(d:Int)) (by omega) (by omega) (by omega)) rfl ?_);(refine callF' (hX _ _ hn (by first|decide|(simp only [decide_eq_true_eq,decide_eq_false_iff_not]at *; omega))) rfl (okQ hA) ⟨?_,trivial⟩;intro ws hw;obtain ⟨⟨op,kd,nm,fd,ad,nn,vk,vi,vf,args⟩,n,rfl,hx,hn⟩:=hw);(refine VOK_lt (sub_c (z:=(d:Int)) (by omega) (by omega) (by omega)) rfl ?_);(refine callF' (hX _ _ hn (by first|decide|(simp only [decide_eq_true_eq,decide_eq_false_iff_not]at *; omega))) rfl (okQ hA) ⟨?_,trivial⟩;intro ws hw;obtain ⟨⟨op,kd,nm,fd,ad,nn,vk,vi,vf,args⟩,n,rfl,hx,hn⟩:=hw);(exact finX (x:=.mk _ _ _ _ _ _ _ _ _ [.mk _ _ _ _ _ _ _ _ _ _,.mk _ _ _ _ _ _ _ _ _ _]) rfl (WX_2 (by omega) (by assumption) (by assumption)) hn)
  ·(refine callF' (p64i hp hn (by first|decide|omega) (by first|decide|omega)) rfl (okP hA) ⟨?_,trivial⟩;intro ws hw;rcases hw with ⟨v,n,rfl,hv,hn⟩);(refine VOK_lt (add_c (by omega) (by omega)) rfl ?_);(refine VOK_lt (sub_c (z:=(d:Int)) (by omega) (by omega) (by omega)) rfl ?_);(refine callF' (hX _ _ hn (by first|decide|(simp only [decide_eq_true_eq,decide_eq_false_iff_not]at *; omega))) rfl (okQ hA) ⟨?_,trivial⟩;intro ws hw;obtain ⟨⟨op,kd,nm,fd,ad,nn,vk,vi,vf,args⟩,n,rfl,hx,hn⟩:=hw);(refine VOK_lt (sub_c (z:=(d:Int)) (by omega) (by omega) (by omega)) rfl ?_);(refine callF' (hX _ _ hn (by first|decide|(simp only [decide_eq_true_eq,decide_eq_false_iff_not]at *; omega))) rfl (okQ hA) ⟨?_,trivial⟩;intro ws hw;obtain ⟨⟨op,kd,nm,fd,ad,nn,vk,vi,vf,args⟩,n,rfl,hx,hn⟩:=hw);(exact finX (x:=.mk _ _ _ _ _ _ _ _ _ [.mk _ _ _ _ _ _ _ _ _ _,.mk _ _ _ _ _ _ _ _ _ _]) rfl (WX_2 (by omega) (by assumption) (by assumption)) hn)
theorem pX {l:List UInt8} {a:AV} (hp:Pk l a):∀d:Nat,d<=100->PX l a 48 (d+1)/\PX l a 21 (d+1)
 |0,h=>by
  have h1:=p48 hp 0 h (λh=>by omega)
  exact ⟨h1,p21 hp 0 h h1 (λh=>by omega)⟩
 |d+1,h=>by
  have ih:=pX hp d (by omega)
  have h1:=p48 hp (d+1) h (λ_=>ih.2)
  exact ⟨h1,p21 hp (d+1) h h1 (λ_=>ih.2)⟩
end Go.Proofs.YtjconanknjgpnaaGreat.vars
set_option maxRecDepth 100000
set_option linter.unusedVariables false
set_option linter.unusedSimpArgs false
namespace Go.Proofs.YtjconanknjgpnaaGreat.vars
open Go Go.Sx
theorem okSn (x:GS) (n:Int):okL (encS x++[.int .i64 n])=true:=encL_ok.okL_join (okS x) rfl
theorem run_app27 (l:List GS) (s:GS) (hl:l.length<=1000):(XOp.app 27 336).run Tryz.prog [encB l,.agg (encS s)]=some (encB (l++[s])):=by
 rw [encB_eq,encB_eq]
 exact run_app_sl lenS (by decide) (by decide) l s (by omega)
end Go.Proofs.YtjconanknjgpnaaGreat.vars
set_option maxRecDepth 100000
set_option linter.unusedVariables false
set_option linter.unusedSimpArgs false
namespace Go.Proofs.YtjconanknjgpnaaGreat.vars
open Go Go.Sx
def VARS:AV:=.vsl 12 10 [.str [97],.int .i64 1,.int .i64 2,.int .i64 0,.int .i64 2,.int .i64 0,.flt .f64 0,.int .i64 0,.int .i64 0,.flt .f64 0,.str [98],.int .i64 1,.int .i64 1,.int .i64 0,.int .i64 1,.int .i64 0,.flt .f64 0,.int .i64 0,.int .i64 0,.flt .f64 0,.str [111],.int .i64 2,.int .i64 2,.int .i64 0,.int .i64 2,.int .i64 0,.flt .f64 0,.int .i64 2,.int .i64 7,.flt .f64 0,.str [113],.int .i64 2,.int .i64 1,.int .i64 0,.int .i64 1,.int .i64 0,.flt .f64 0,.int .i64 1,.int .i64 1,.flt .f64 0,.str [120],.int .i64 3,.int .i64 2,.int .i64 0,.int .i64 2,.int .i64 5,.flt .f64 0,.int .i64 0,.int .i64 0,.flt .f64 0,.str [121],.int .i64 3,.int .i64 3,.int .i64 0,.int .i64 3,.int .i64 0,.flt .f64 0,.int .i64 0,.int .i64 0,.flt .f64 0,.str [122],.int .i64 3,.int .i64 5,.int .i64 0,.int .i64 5,.int .i64 0,.flt .f64 0,.int .i64 0,.int .i64 0,.flt .f64 0,.str [119],.int .i64 3,.int .i64 4,.int .i64 0,.int .i64 4,.int .i64 0,.flt .f64 0,.int .i64 0,.int .i64 0,.flt .f64 0,.str [107],.int .i64 3,.int .i64 2,.int .i64 4,.int .i64 2,.int .i64 0,.flt .f64 0,.int .i64 0,.int .i64 0,.flt .f64 0,.str [116,109],.int .i64 3,.int .i64 6,.int .i64 0,.int .i64 0,.int .i64 0,.flt .f64 0,.int .i64 0,.int .i64 0,.flt .f64 0,.str [99],.int .i64 3,.int .i64 9,.int .i64 0,.int .i64 0,.int .i64 0,.flt .f64 0,.int .i64 0,.int .i64 0,.flt .f64 0,.str [101],.int .i64 3,.int .i64 11,.int .i64 0,.int .i64 0,.int .i64 0,.flt .f64 0,.int .i64 0,.int .i64 0,.flt .f64 0]
theorem k88_97:Pure Tryz.prog 153 [VARS,.str [97]] (.tup [.agg [.str [97],.int .i64 1,.int .i64 2,.int .i64 0,.int .i64 2,.int .i64 0,.flt .f64 0,.int .i64 0,.int .i64 0,.flt .f64 0],.int .i64 0,.bool true]):=memo_ok mo ov (n:=3000) (by kernel_rfl)
theorem k88_98:Pure Tryz.prog 153 [VARS,.str [98]] (.tup [.agg [.str [98],.int .i64 1,.int .i64 1,.int .i64 0,.int .i64 1,.int .i64 0,.flt .f64 0,.int .i64 0,.int .i64 0,.flt .f64 0],.int .i64 1,.bool true]):=memo_ok mo ov (n:=3000) (by kernel_rfl)
theorem k88_111:Pure Tryz.prog 153 [VARS,.str [111]] (.tup [.agg [.str [111],.int .i64 2,.int .i64 2,.int .i64 0,.int .i64 2,.int .i64 0,.flt .f64 0,.int .i64 2,.int .i64 7,.flt .f64 0],.int .i64 2,.bool true]):=memo_ok mo ov (n:=3000) (by kernel_rfl)
theorem k88_113:Pure Tryz.prog 153 [VARS,.str [113]] (.tup [.agg [.str [113],.int .i64 2,.int .i64 1,.int .i64 0,.int .i64 1,.int .i64 0,.flt .f64 0,.int .i64 1,.int .i64 1,.flt .f64 0],.int .i64 3,.bool true]):=memo_ok mo ov (n:=3000) (by kernel_rfl)
theorem k88_120:Pure Tryz.prog 153 [VARS,.str [120]] (.tup [.agg [.str [120],.int .i64 3,.int .i64 2,.int .i64 0,.int .i64 2,.int .i64 5,.flt .f64 0,.int .i64 0,.int .i64 0,.flt .f64 0],.int .i64 4,.bool true]):=memo_ok mo ov (n:=3000) (by kernel_rfl)
theorem k88_121:Pure Tryz.prog 153 [VARS,.str [121]] (.tup [.agg [.str [121],.int .i64 3,.int .i64 3,.int .i64 0,.int .i64 3,.int .i64 0,.flt .f64 0,.int .i64 0,.int .i64 0,.flt .f64 0],.int .i64 5,.bool true]):=memo_ok mo ov (n:=3000) (by kernel_rfl)
theorem k88_122:Pure Tryz.prog 153 [VARS,.str [122]] (.tup [.agg [.str [122],.int .i64 3,.int .i64 5,.int .i64 0,.int .i64 5,.int .i64 0,.flt .f64 0,.int .i64 0,.int .i64 0,.flt .f64 0],.int .i64 6,.bool true]):=memo_ok mo ov (n:=3000) (by kernel_rfl)
theorem k88_119:Pure Tryz.prog 153 [VARS,.str [119]] (.tup [.agg [.str [119],.int .i64 3,.int .i64 4,.int .i64 0,.int .i64 4,.int .i64 0,.flt .f64 0,.int .i64 0,.int .i64 0,.flt .f64 0],.int .i64 7,.bool true]):=memo_ok mo ov (n:=3000) (by kernel_rfl)
theorem k88_107:Pure Tryz.prog 153 [VARS,.str [107]] (.tup [.agg [.str [107],.int .i64 3,.int .i64 2,.int .i64 4,.int .i64 2,.int .i64 0,.flt .f64 0,.int .i64 0,.int .i64 0,.flt .f64 0],.int .i64 8,.bool true]):=memo_ok mo ov (n:=3000) (by kernel_rfl)
theorem k88_116_109:Pure Tryz.prog 153 [VARS,.str [116,109]] (.tup [.agg [.str [116,109],.int .i64 3,.int .i64 6,.int .i64 0,.int .i64 0,.int .i64 0,.flt .f64 0,.int .i64 0,.int .i64 0,.flt .f64 0],.int .i64 12,.bool true]):=memo_ok mo ov (n:=3000) (by kernel_rfl)
theorem k88_99:Pure Tryz.prog 153 [VARS,.str [99]] (.tup [.agg [.str [99],.int .i64 3,.int .i64 9,.int .i64 0,.int .i64 0,.int .i64 0,.flt .f64 0,.int .i64 0,.int .i64 0,.flt .f64 0],.int .i64 16,.bool true]):=memo_ok mo ov (n:=3000) (by kernel_rfl)
theorem k88_101:Pure Tryz.prog 153 [VARS,.str [101]] (.tup [.agg [.str [101],.int .i64 3,.int .i64 11,.int .i64 0,.int .i64 0,.int .i64 0,.flt .f64 0,.int .i64 0,.int .i64 0,.flt .f64 0],.int .i64 19,.bool true]):=memo_ok mo ov (n:=3000) (by kernel_rfl)
theorem k95_116_109_46_113:Pure Tryz.prog 178 [VARS,.str [116,109,46,113]] (.tup [.agg [.str [116,109,46,113],.int .i64 12,.int .i64 1,.int .i64 3],.bool true]):=memo_ok mo ov (n:=3000) (by kernel_rfl)
theorem k95_99_46_99_118:Pure Tryz.prog 178 [VARS,.str [99,46,99,118]] (.tup [.agg [.str [99,46,99,118],.int .i64 17,.int .i64 2,.int .i64 3],.bool true]):=memo_ok mo ov (n:=3000) (by kernel_rfl)
theorem k95_116_109_46_101_116:Pure Tryz.prog 178 [VARS,.str [116,109,46,101,116]] (.tup [.agg [.str [116,109,46,101,116],.int .i64 13,.int .i64 4,.int .i64 3],.bool true]):=memo_ok mo ov (n:=3000) (by kernel_rfl)
theorem k35:Pure Tryz.prog 45 [VARS] (.int .i64 0):=memo_ok mo ov (n:=3000) (by kernel_rfl)
theorem k37:Pure Tryz.prog 20 [] VARS:=memo_ok mo ov (n:=3000) (by kernel_rfl)
theorem k67 (v:Nat) (h:v<50):Pure Tryz.prog 55 [.int .i64 2,.int .i64 (v:Int)] (.int .i64 (v:Int)):=by
 have:∀v∈List.range 50,Pure Tryz.prog 55 [.int .i64 2,.int .i64 (v:Int)] (.int .i64 (v:Int)):=by
  simp only [List.range,List.range.loop,List.forall_mem_cons]
  repeat' apply And.intro
  all_goals first|exact (λx hx=>(List.not_mem_nil hx).elim)|exact memo_ok mo ov (n:=3000) (by kernel_rfl)
 exact this v (List.mem_range.2 h)
theorem k46_1:Pure Tryz.prog 53 [.int .i64 1] (.int .i64 1):=memo_ok mo ov (n:=3000) (by kernel_rfl)
theorem k46_2:Pure Tryz.prog 53 [.int .i64 2] (.int .i64 1):=memo_ok mo ov (n:=3000) (by kernel_rfl)
theorem k46_3:Pure Tryz.prog 53 [.int .i64 3] (.int .i64 1):=memo_ok mo ov (n:=3000) (by kernel_rfl)
theorem k46_4:Pure Tryz.prog 53 [.int .i64 4] (.int .i64 1):=memo_ok mo ov (n:=3000) (by kernel_rfl)
theorem k46_5:Pure Tryz.prog 53 [.int .i64 5] (.int .i64 1):=memo_ok mo ov (n:=3000) (by kernel_rfl)
theorem k46_6:Pure Tryz.prog 53 [.int .i64 6] (.int .i64 4):=memo_ok mo ov (n:=3000) (by kernel_rfl)
theorem k46_9:Pure Tryz.prog 53 [.int .i64 9] (.int .i64 3):=memo_ok mo ov (n:=3000) (by kernel_rfl)
theorem k46_11:Pure Tryz.prog 53 [.int .i64 11] (.int .i64 2):=memo_ok mo ov (n:=3000) (by kernel_rfl)
def c157:VC:=⟨⟨[],[]⟩,[],[],0,true,[]⟩
def t157:VT:=
 (.ite 64
 (.done (J 0))
 (.done (J 4)))
def c158:VC:=⟨⟨[],[]⟩,[],[],0,true,[]⟩
def t158:VT:=
 (.lt (.bin .eql 3 false true) [64,J 2] 65 none
 (.ite 65
 (.done (.bool true))
 (.lt (.bin .eql 3 false true) [64,J 3] 66 none
 (.ite 66
 (.done (.bool true))
 (.lt (.bin .eql 3 false true) [64,J 4] 67 none
 (.done (67)))))))
def c154:VC:=⟨⟨[],[]⟩,[(55,[none])],[],0,true,[]⟩
def t154:VT:=
 (.lt (.bin .eql 3 false true) [74,J 2] 75 none
 (.ite 75
 (.lt (.bin .eql 3 false true) [64,J 1] 76 none
 (.ite 76
 (.lt (.bin .eql 3 false true) [65,J 3] 77 none
 (.ite 77
 (.call 55 [J 2,71] 78 [none]
 (.done (.agg [64,J 2,66,67,68,69,J 2,78,.flt .f64 0,73])))
 (.done (.agg [64,65,66,67,68,69,70,71,72,73]))))
 (.done (.agg [64,65,66,67,68,69,70,71,72,73]))))
 (.done (.agg [64,65,66,67,68,69,70,71,72,73]))))
def c155:VC:=⟨⟨[],[]⟩,[(153,[(some 10),none,none]),(178,[(some 4),none]),(53,[none]),(157,[none])],[],0,true,[]⟩
def t155:VT:=
 (.call 153 [64,67] 75 [(some 10),none,none]
 (.lt (.un .not) [86] 87 none
 (.ite 87
 (.done (.tup [J 0,65,66,67,68,69,70,71,72,73,74,J 3]))
 (.lt (.bin .eql 9 false true) [68,.str []] 88 none
 (.ite 88
 (.call 53 [77] 89 [none]
 (.lt (.bin .eql 3 false true) [89,J 1] 90 none
 (.ite 90
 (.lt (.bin .eql 3 false true) [78,J 0] 91 none
 (.call 157 [91] 92 [none]
 (.done (.tup [J 0,65,77,67,68,85,70,71,72,73,74,92]))))
 (.call 157 [.bool false] 91 [none]
 (.done (.tup [J 0,65,77,67,68,85,70,71,72,73,74,91]))))))
 (.call 53 [77] 89 [none]
 (.lt (.bin .lss 3 false true) [89,J 2] 90 none
 (.ite 90
 (.done (.tup [J 0,65,66,67,68,69,70,71,72,73,74,J 4]))
 (.lt (.bin .add 9 false true) [67,.str [46]] 91 none
 (.lt (.bin .add 9 false false) [91,68] 92 none
 (.call 178 [64,92] 93 [(some 4),none]
 (.lt (.un .not) [97] 98 none
 (.ite 98
 (.done (.tup [J 0,65,66,67,68,69,70,71,72,73,74,J 3]))
 (.done (.tup [J 0,65,95,67,68,94,70,71,72,73,74,J 0])))))))))))))))
def c156:VC:=⟨⟨[],[]⟩,[(153,[(some 10),none,none]),(157,[none])],[],0,true,[]⟩
def t156:VT:=
 (.call 153 [64,67] 76 [(some 10),none,none]
 (.lt (.un .not) [87] 88 none
 (.ite 88
 (.done (.tup [J 0,65,66,67,68,69,70,71,72,73,74,J 3]))
 (.lt (.bin .gtr 3 false true) [79,J 0] 89 none
 (.ite 89
 (.lt (.iaddr 47) [75,J 0] 90 none
 (.lt (.faddr 49 1) [90] 91 none
 (.lt (.load 3) [91] 92 none
 (.lt (.bin .eql 3 false true) [92,J 2] 93 none
 (.ite 93
 (.call 157 [.bool true] 94 [none]
 (.done (.tup [J 0,65,78,67,68,86,79,71,72,73,75,94])))
 (.lt (.iaddr 47) [75,J 0] 94 none
 (.lt (.faddr 49 1) [94] 95 none
 (.lt (.load 3) [95] 96 none
 (.lt (.bin .eql 3 false true) [96,J 3] 97 none
 (.call 157 [97] 98 [none]
 (.done (.tup [J 0,65,78,67,68,86,79,71,72,73,75,98]))))))))))))
 (.call 157 [.bool false] 90 [none]
 (.done (.tup [J 0,65,78,67,68,86,79,71,72,73,75,90]))))))))
theorem p157 (b:Bool):Pure Tryz.prog 157 [.bool b] (.int .i64 (if b=true then 0 else 4)):=by
 refine pure_shape (sh:=[none]) (ls:=[.bool b]) (c:=c157) (n:=300) (t:=t157) mo ov rfl rfl rfl (λY _=>known0 _) rfl (by kernel_rfl) λY hf hg=>?_
 unfold t157
 refine VOK_ite rfl (λh=>VOK_done ?_) (λh=>VOK_done ?_)
 ·rw [h];rfl
 ·rw [h];rfl
section
variable {P:Program} {Q:AV->Prop} {L:List (Nat->List AV->Prop)} {Y:Sy} {t:TypeId} {cx cy:Bool} {args:List AV} {n:Nat} {A B:VT} {k:IntKind} {a b:Int}
def Cmp:BinOp->Int->Int->Prop
 | .eql,a,b=>a=b
 | .neq,a,b=>¬a=b
 | .lss,a,b=>a<b
 | .gtr,a,b=>b<a
 | .leq,a,b=>a<=b
 | .geq,a,b=>b<=a
 |_,_,_=>False
open Classical in
theorem it_c {op:BinOp} (h0:denL Y.v args=[.int k a,.int k b]) (ho:(match op with| .eql=>true| .neq=>true| .lss=>true| .gtr=>true| .leq=>true| .geq=>true|_=>false)=true)
  (h1:Cmp op a b->VOK P Q L (Y.put n (.bool (decide (Cmp op a b)))) A) (h2:¬Cmp op a b->VOK P Q L (Y.put n (.bool (decide (Cmp op a b)))) B):VOK P Q L Y (.lt (.bin op t cx cy) args n none (.ite n A B)):=by
 have hr:(XOp.bin op t cx cy).run P [.int k a,.int k b]=some (.bool (decide (Cmp op a b))):=by
  cases op<;>simp only at ho<;>first|(cases ho;done)|skip
  ·rw [run_eql];refine congrArg (λx=>some (AV.bool x)) ?_;by_cases h:a=b<;>simp [Cmp,h]
  ·rw [run_neq];refine congrArg (λx=>some (AV.bool x)) ?_;by_cases h:a=b<;>simp [Cmp,h]
  ·rw [run_lss];refine congrArg (λx=>some (AV.bool x)) ?_;by_cases h:a<b<;>simp [Cmp,h]
  ·rw [run_leq];refine congrArg (λx=>some (AV.bool x)) ?_;by_cases h:a<=b<;>simp [Cmp,h]
  ·rw [run_gtr];refine congrArg (λx=>some (AV.bool x)) ?_;by_cases h:b<a<;>simp [Cmp,h]
  ·rw [run_geq];refine congrArg (λx=>some (AV.bool x)) ?_;by_cases h:b<=a<;>simp [Cmp,h]
 exact VOK_lt (by rw [h0];exact hr) rfl (VOK_ite (t:=decide (Cmp op a b)) (by rw [put_v,if_pos rfl]) (λh=>h1 (of_decide_eq_true h)) (λh=>h2 (of_decide_eq_false h)))
end
def cellsL:List (Int×Int):=[(1,1),(3,1),(12,1),(0,2),(4,2),(2,2),(17,2),(5,3),(13,4),(7,4),(6,5)]
def tieL:List (List UInt8×List UInt8×Int×Int):=[([98],[],1,1),([113],[],3,1),([116,109],[113],12,1),([97],[],0,2),([120],[],4,2),([111],[],2,2),([99],[99,118],17,2),([121],[],5,3),([116,109],[101,116],13,4),([119],[],7,4),([122],[],6,5)]
def rolesL:List (List UInt8×Int):=[([98],1),([113],2),([116,109],3),([97],1),([120],3),([111],2),([99],3),([121],3),([119],3),([122],3),([107],3)]
def wrL:List (Int×Int):=[(3,1),(4,2),(2,2),(5,3),(7,4),(6,5)]
theorem tie_cells:∀t∈tieL,(t.2.2.1,t.2.2.2)∈cellsL:=by decide
theorem tie_wr:∀t∈tieL,∀q∈rolesL,t.2.1=[]->t.1=q.1->q.2≠1->(t.2.2.1,t.2.2.2)∈wrL:=by decide
def GX.ad:GX->Int| .mk _ _ _ _ ad .. =>ad
def NT (x y:GX):Prop:=match x,y with
 | .mk op _ nm fd ..,.mk _ kd _ _ ad .. =>op=2->(nm,fd,ad,kd)∈tieL
def KX (op kd ad n vk vi:Int) (vf:Nat) (ks:List Int):Prop:=
 (op=1->kd=vk/\1<=vk/\vk<=5/\0<=vi/\vi<50/\(vk=1->vi<=1)/\(vk=5->vi=0)/\(vk≠5->vf=0))/\
 (op=2->(ad,kd)∈cellsL)/\
 (op=3->ad=8/\n=4/\kd=2/\∃k,ks=[k]/\(k=2\/k=3))/\
 (4<=op/\op<=14->∃k,ks=[k,k]/\1<=k/\k<=5/\(op<=8->kd=k/\k≠1)/\(9<=op->kd=1)/\(op=8->k≠5)/\(op=11\/op=12->k≠1)/\(13<=op->k=1))/\
 (op=15->kd=1/\ks=[1])/\
 (op=16->ks=[kd]/\2<=kd/\kd<=5)/\
 (op=17->2<=kd/\kd<=5/\∃k,ks=[k]/\2<=k/\k<=5)
def TX:Nat->GX->Prop
 |0,_=>False
 |d+1,.mk op kd nm fd ad n vk vi vf args=>Ari op args.length/\Flt4 vf/\1<=kd/\kd<=5/\KX op kd ad n vk vi vf (args.map GX.kd)/\∀a∈args,TX d a
theorem TX_kd:∀{d:Nat} {x:GX},TX d x->1<=x.kd/\x.kd<=5
 |0,_,h=>h.elim
 |d+1,.mk ..,h=>⟨h.2.2.1,h.2.2.2.1⟩
theorem okC_noRef_agg {l:List AV} (h:okL l=true):noRef (.agg l)=true:=by simp only [noRef];exact okL_noRef h
theorem p154 {d:Nat} (x:GX) (k:Int) (hx:TX d x):∃y,Pure Tryz.prog 154 [.agg (encX x),.int .i64 k] (.agg (encX y))/\TX d y:=by
 obtain ⟨op,kd,nm,fd,ad,n,vk,vi,vf,args⟩:=x
 obtain ⟨d,rfl⟩:∃e,d=e+1:=by cases d with|zero=>exact hx.elim|succ d=>exact ⟨d,rfl⟩
 by_cases hc:k=2/\op=1/\kd=3
 ·obtain ⟨rfl,rfl,rfl⟩:=hc
  obtain ⟨h1,h2,h3,h4,h5,h6⟩:=hx
  obtain ⟨q1,q2,q3,q4,q5,q6,q7,q8⟩:=h5.1 rfl
  obtain ⟨v,rfl⟩:∃v:Nat,vi=(v:Int):=⟨vi.toNat,by omega⟩
  refine ⟨.mk 1 2 nm fd ad n 2 v 0 args,?_,h1,.inl rfl,by decide,by decide,⟨λ_=>⟨rfl,by decide,by decide,q4,q5,λh=>by omega,λh=>by omega,λ_=>rfl⟩,λh=>by omega,λh=>by omega,λh=>by omega,λh=>by omega,λh=>by omega,λh=>by omega⟩,h6⟩
  refine pure_shape (sh:=[some 10,none]) (ls:=encX (.mk 1 3 nm fd ad n vk v vf args)++[.int .i64 2]) (c:=c154) (n:=300) (t:=t154) mo ov rfl (okXn _ _) (okC_noRef_agg (okX _)) (λY _=>known0 _) rfl (by kernel_rfl) λY hf hg=>?_
  unfold t154
  (refine it_c rfl rfl (λh=>?_) (λh=>?_)<;>simp only [Cmp,Decidable.not_not,Int.not_lt,Int.not_le]at h<;>try (exfalso;first|exact h trivial|omega));(refine it_c rfl rfl (λh=>?_) (λh=>?_)<;>simp only [Cmp,Decidable.not_not,Int.not_lt,Int.not_le]at h<;>try (exfalso;first|exact h trivial|omega));(refine it_c rfl rfl (λh=>?_) (λh=>?_)<;>simp only [Cmp,Decidable.not_not,Int.not_lt,Int.not_le]at h<;>try (exfalso;first|exact h trivial|omega))
  refine VOK_call (k67 v (by omega)) rfl rfl (VOK_done rfl)
 ·refine ⟨_,?_,hx⟩
  refine pure_shape (sh:=[some 10,none]) (ls:=encX (.mk op kd nm fd ad n vk vi vf args)++[.int .i64 k]) (c:=c154) (n:=300) (t:=t154) mo ov rfl (okXn _ _) (okC_noRef_agg (okX _)) (λY _=>known0 _) rfl (by kernel_rfl) λY hf hg=>?_
  unfold t154
  (refine it_c rfl rfl (λh=>?_) (λh=>?_)<;>simp only [Cmp,Decidable.not_not,Int.not_lt,Int.not_le]at h<;>try (exfalso;first|exact h trivial|omega))
  ·(refine it_c rfl rfl (λh=>?_) (λh=>?_)<;>simp only [Cmp,Decidable.not_not,Int.not_lt,Int.not_le]at h<;>try (exfalso;first|exact h trivial|omega))
   ·(refine it_c rfl rfl (λh=>?_) (λh=>?_)<;>simp only [Cmp,Decidable.not_not,Int.not_lt,Int.not_le]at h<;>try (exfalso;first|exact h trivial|omega))
    exact VOK_done rfl
   ·exact VOK_done rfl
  ·exact VOK_done rfl
def GX.nm:GX->List UInt8| .mk _ _ nm .. =>nm
def GX.fd:GX->List UInt8| .mk _ _ _ fd .. =>fd
def RL (x:GX):Nat->List AV->Prop:=λ_ ws=>∃ad kd:Int,ws=(match x with| .mk op _ nm fd _ n vk vi vf args=>encX (.mk op kd nm fd ad n vk vi vf args))++[.int .i64 0]/\(x.nm,x.fd,ad,kd)∈tieL
theorem p155 (op kd:Int) (nm fd:List UInt8) (ad n vk vi:Int) (vf:Nat) (args:List GX) (h:(nm,fd)∈loads):CF Tryz.prog 155 ft155 (VARS::encX (.mk op kd nm fd ad n vk vi vf args)) (RL (.mk op kd nm fd ad n vk vi vf args)):=by
 refine cf_tree (c:=c155) (n:=300) (t:=t155) mo ov rfl (λY _=>known0 _) (by kernel_rfl) λY hf hg=>?_
 unfold t155
 simp only [loads,List.mem_cons,Prod.mk.injEq,List.not_mem_nil,or_false]at h
 rcases h with ⟨rfl,rfl⟩|⟨rfl,rfl⟩|⟨rfl,rfl⟩|⟨rfl,rfl⟩|⟨rfl,rfl⟩|⟨rfl,rfl⟩|⟨rfl,rfl⟩|⟨rfl,rfl⟩|⟨rfl,rfl⟩|⟨rfl,rfl⟩|⟨rfl,rfl⟩
 ·(
   refine VOK_call k88_98 rfl rfl (VOK_lt rfl rfl (VOK_ite rfl (λh=>by cases h) (λ_=>VOK_lt rfl rfl (VOK_ite rfl (λ_=>?_) (λh=>by cases h)))))
   refine VOK_call k46_1 rfl rfl (VOK_lt rfl rfl (VOK_ite rfl (λ_=>VOK_lt rfl rfl (VOK_call (p157 true) rfl rfl (VOK_fin ?_ ⟨1,1,rfl,by simp only [GX.nm,GX.fd];decide⟩))) (λh=>by cases h)))
   exact okXn (.mk _ _ _ _ _ _ _ _ _ args) _)
 ·(
   refine VOK_call k88_113 rfl rfl (VOK_lt rfl rfl (VOK_ite rfl (λh=>by cases h) (λ_=>VOK_lt rfl rfl (VOK_ite rfl (λ_=>?_) (λh=>by cases h)))))
   refine VOK_call k46_1 rfl rfl (VOK_lt rfl rfl (VOK_ite rfl (λ_=>VOK_lt rfl rfl (VOK_call (p157 true) rfl rfl (VOK_fin ?_ ⟨3,1,rfl,by simp only [GX.nm,GX.fd];decide⟩))) (λh=>by cases h)))
   exact okXn (.mk _ _ _ _ _ _ _ _ _ args) _)
 ·(
   refine VOK_call k88_116_109 rfl rfl (VOK_lt rfl rfl (VOK_ite rfl (λh=>by cases h) (λ_=>VOK_lt rfl rfl (VOK_ite rfl (λh=>by cases h) (λ_=>?_)))))
   refine VOK_call k46_6 rfl rfl (VOK_lt rfl rfl (VOK_ite rfl (λh=>by cases h) (λ_=>VOK_lt rfl rfl (VOK_lt rfl rfl (VOK_call k95_116_109_46_113 rfl rfl (VOK_lt rfl rfl (VOK_ite rfl (λh=>by cases h) (λ_=>VOK_fin ?_ ⟨12,1,rfl,by simp only [GX.nm,GX.fd];decide⟩))))))))
   exact okXn (.mk _ _ _ _ _ _ _ _ _ args) _)
 ·(
   refine VOK_call k88_97 rfl rfl (VOK_lt rfl rfl (VOK_ite rfl (λh=>by cases h) (λ_=>VOK_lt rfl rfl (VOK_ite rfl (λ_=>?_) (λh=>by cases h)))))
   refine VOK_call k46_2 rfl rfl (VOK_lt rfl rfl (VOK_ite rfl (λ_=>VOK_lt rfl rfl (VOK_call (p157 true) rfl rfl (VOK_fin ?_ ⟨0,2,rfl,by simp only [GX.nm,GX.fd];decide⟩))) (λh=>by cases h)))
   exact okXn (.mk _ _ _ _ _ _ _ _ _ args) _)
 ·(
   refine VOK_call k88_120 rfl rfl (VOK_lt rfl rfl (VOK_ite rfl (λh=>by cases h) (λ_=>VOK_lt rfl rfl (VOK_ite rfl (λ_=>?_) (λh=>by cases h)))))
   refine VOK_call k46_2 rfl rfl (VOK_lt rfl rfl (VOK_ite rfl (λ_=>VOK_lt rfl rfl (VOK_call (p157 true) rfl rfl (VOK_fin ?_ ⟨4,2,rfl,by simp only [GX.nm,GX.fd];decide⟩))) (λh=>by cases h)))
   exact okXn (.mk _ _ _ _ _ _ _ _ _ args) _)
 ·(
   refine VOK_call k88_111 rfl rfl (VOK_lt rfl rfl (VOK_ite rfl (λh=>by cases h) (λ_=>VOK_lt rfl rfl (VOK_ite rfl (λ_=>?_) (λh=>by cases h)))))
   refine VOK_call k46_2 rfl rfl (VOK_lt rfl rfl (VOK_ite rfl (λ_=>VOK_lt rfl rfl (VOK_call (p157 true) rfl rfl (VOK_fin ?_ ⟨2,2,rfl,by simp only [GX.nm,GX.fd];decide⟩))) (λh=>by cases h)))
   exact okXn (.mk _ _ _ _ _ _ _ _ _ args) _)
 ·(
   refine VOK_call k88_99 rfl rfl (VOK_lt rfl rfl (VOK_ite rfl (λh=>by cases h) (λ_=>VOK_lt rfl rfl (VOK_ite rfl (λh=>by cases h) (λ_=>?_)))))
   refine VOK_call k46_9 rfl rfl (VOK_lt rfl rfl (VOK_ite rfl (λh=>by cases h) (λ_=>VOK_lt rfl rfl (VOK_lt rfl rfl (VOK_call k95_99_46_99_118 rfl rfl (VOK_lt rfl rfl (VOK_ite rfl (λh=>by cases h) (λ_=>VOK_fin ?_ ⟨17,2,rfl,by simp only [GX.nm,GX.fd];decide⟩))))))))
   exact okXn (.mk _ _ _ _ _ _ _ _ _ args) _)
 ·(
   refine VOK_call k88_121 rfl rfl (VOK_lt rfl rfl (VOK_ite rfl (λh=>by cases h) (λ_=>VOK_lt rfl rfl (VOK_ite rfl (λ_=>?_) (λh=>by cases h)))))
   refine VOK_call k46_3 rfl rfl (VOK_lt rfl rfl (VOK_ite rfl (λ_=>VOK_lt rfl rfl (VOK_call (p157 true) rfl rfl (VOK_fin ?_ ⟨5,3,rfl,by simp only [GX.nm,GX.fd];decide⟩))) (λh=>by cases h)))
   exact okXn (.mk _ _ _ _ _ _ _ _ _ args) _)
 ·(
   refine VOK_call k88_116_109 rfl rfl (VOK_lt rfl rfl (VOK_ite rfl (λh=>by cases h) (λ_=>VOK_lt rfl rfl (VOK_ite rfl (λh=>by cases h) (λ_=>?_)))))
   refine VOK_call k46_6 rfl rfl (VOK_lt rfl rfl (VOK_ite rfl (λh=>by cases h) (λ_=>VOK_lt rfl rfl (VOK_lt rfl rfl (VOK_call k95_116_109_46_101_116 rfl rfl (VOK_lt rfl rfl (VOK_ite rfl (λh=>by cases h) (λ_=>VOK_fin ?_ ⟨13,4,rfl,by simp only [GX.nm,GX.fd];decide⟩))))))))
   exact okXn (.mk _ _ _ _ _ _ _ _ _ args) _)
 ·(
   refine VOK_call k88_119 rfl rfl (VOK_lt rfl rfl (VOK_ite rfl (λh=>by cases h) (λ_=>VOK_lt rfl rfl (VOK_ite rfl (λ_=>?_) (λh=>by cases h)))))
   refine VOK_call k46_4 rfl rfl (VOK_lt rfl rfl (VOK_ite rfl (λ_=>VOK_lt rfl rfl (VOK_call (p157 true) rfl rfl (VOK_fin ?_ ⟨7,4,rfl,by simp only [GX.nm,GX.fd];decide⟩))) (λh=>by cases h)))
   exact okXn (.mk _ _ _ _ _ _ _ _ _ args) _)
 ·(
   refine VOK_call k88_122 rfl rfl (VOK_lt rfl rfl (VOK_ite rfl (λh=>by cases h) (λ_=>VOK_lt rfl rfl (VOK_ite rfl (λ_=>?_) (λh=>by cases h)))))
   refine VOK_call k46_5 rfl rfl (VOK_lt rfl rfl (VOK_ite rfl (λ_=>VOK_lt rfl rfl (VOK_call (p157 true) rfl rfl (VOK_fin ?_ ⟨6,5,rfl,by simp only [GX.nm,GX.fd];decide⟩))) (λh=>by cases h)))
   exact okXn (.mk _ _ _ _ _ _ _ _ _ args) _)
end Go.Proofs.YtjconanknjgpnaaGreat.vars
set_option linter.unusedVariables false
set_option linter.unusedSimpArgs false
namespace Go.Sx
section
variable {P:Program} {t:TypeId} {ti:TypeInfo} {α:Type} {enc:α->List AV} {w:Nat}
theorem setAt_app:∀(a xs b c:List AV),b.length=xs.length->setAt a.length xs (a++(b++c))=some (a++(xs++c))
 |[],[],[],c,_=>by cases c<;>rfl
 |[],x::xs,y::b,c,h=>by
  have ih:=setAt_app [] xs b c (by simpa using h)
  simp only [List.nil_append,List.length_nil,List.cons_append]at ih⊢
  simp only [setAt,ih]
 |[],x::xs,[],c,h=>by simp at h
 |[],[],y::b,c,h=>by simp at h
 |x::a,xs,b,c,h=>by
  simp only [List.cons_append,List.length_cons,setAt,setAt_app a xs b c h]
theorem cut_at (hw:∀a,(enc a).length=w) (l:List α) {i:Nat} (hi:i<l.length):∃a b,encL enc l=a++(enc l[i]++b)/\a.length=i*w/\∀x,encL enc (l.set i x)=a++(enc x++b):=by
 refine ⟨encL enc (l.take i),encL enc (l.drop (i+1)),?_,?_,λx=>?_⟩
 ·have h1:l=l.take i++l[i]::l.drop (i+1):=by rw [List.getElem_cons_drop,List.take_append_drop]
  have h2:=congrArg (encL enc) h1
  rw [encL_append]at h2
  exact h2
 ·rw [encL_length hw,List.length_take];congr 1;omega
 ·rw [List.set_eq_take_append_cons_drop,if_pos hi,encL_append];rfl
theorem run_stx (hw:∀a,(enc a).length=w) {l:List α} {i:Nat} (hi:i<l.length) {off:Nat} {v:AV} {xs p q r:List AV} {y:α} (hc:v.cells=xs) (ho:v=.agg xs\/(∃k n,v=.int k n)) (hinf:P.info? t=some ti) (hs:ti.size=xs.length) (h1:allOne xs=true)
  (he:enc l[i]=p++(q++r)) (hp:p.length=off) (hq:q.length=xs.length) (hy:enc y=p++(xs++r)) (k:IntKind):(XOp.stx t w off).run P [sliceOf enc w l,.int k (i:Int),v]=some (sliceOf enc w (l.set i y)):=by
 obtain ⟨a,b,e1,e2,e3⟩:=cut_at hw l hi
 obtain ⟨x0,l',rfl⟩:∃x l',l=x::l':=by cases l with|nil=>simp at hi|cons x l'=>exact ⟨x,l',rfl⟩
 have hset:∃z l'',(x0::l').set i y=z::l''/\l''.length=l'.length:=by
  cases i with
  |zero=>exact ⟨y,l',rfl,rfl⟩
  |succ i=>exact ⟨x0,l'.set i y,rfl,by simp⟩
 obtain ⟨z,l'',e4,e5⟩:=hset
 have hst:evStore P (row0 (encL enc (x0::l'))) t (.ptr 0 (i*w+off)) v=some (.tup [],(row0 (encL enc (x0::l'))).set 0 (.cells (encL enc ((x0::l').set i y)))):=by
  have hg:(row0 (encL enc (x0::l'))).get 0=some (.cells (encL enc (x0::l'))):=rfl
  have hsa:setAt (i*w+off) xs (encL enc (x0::l'))=some (encL enc ((x0::l').set i y)):=by
   have:=setAt_app (a++p) xs q (r++b) hq
   rw [List.length_append,e2,hp]at this
   rw [e1,he,e3,hy]
   simpa [List.append_assoc]using this
  have hb:Nat.beq xs.length ti.size=true:=by rw [hs];exact Nat.beq_refl _
  rcases ho with rfl|⟨k',n,rfl⟩
  ·simp only [evStore,hinf]
   have hc':(AV.agg xs).cells=xs:=hc
   simp only [hc',hb,h1,hg,hsa]
  ·simp only [evStore,hinf]
   simp only [hc,hb,h1,hg,hsa]
 show (match evStore P (row0 (encL enc (x0::l'))) t (.ptr 0 (Nat.add (Nat.mul i w) off)) v with
  |some r=>match r.2.get 0 with
   |some (.cells cs')=>some (AV.vsl (l'.length+1) w cs')
   |_=>none
  |none=>none)=_
 have e6:Nat.add (Nat.mul i w) off=i*w+off:=rfl
 rw [e6,hst]
 have hg2:∀c:List AV,((row0 (encL enc (x0::l'))).set 0 (.cells c)).get 0=some (.cells c):=λc=>rfl
 simp only [hg2]
 rw [e4]
 show _=some (AV.vsl (l''.length+1) w (encL enc (z::l'')))
 rw [e5]
theorem run_inb {l:List α} {i:Nat} (hi:i<l.length) (k:IntKind):(XOp.inb).run P [sliceOf enc w l,.int k (i:Int)]=some (.int .i64 (i:Int)):=by
 cases l with
 |nil=>simp at hi
 |cons x r=>
  show (match Sx.idx (i:Int) (r.length+1)with|some n=>some (AV.int .i64 (.ofNat n))|none=>none)=_
  have hb:Nat.blt i (r.length+1)=true:=by simpa [Nat.blt_eq]using hi
  have:Sx.idx (i:Int) (r.length+1)=some i:=by
   show (match Nat.blt i (r.length+1)with|true=>some i|false=>none)=some i
   rw [hb]
  rw [this];rfl
end
theorem allOne_ok:∀{l:List AV},okL l=true->allOne l=true
 |[],_=>rfl
 |a::r,h=>by
  rw [okL_cons]at h
  obtain ⟨h1,h2⟩:=and_split h
  have:a.one=true:=by cases a<;>first|rfl|(simp [okC]at h1)
  simp only [allOne,this,allOne_ok h2]
end Go.Sx
