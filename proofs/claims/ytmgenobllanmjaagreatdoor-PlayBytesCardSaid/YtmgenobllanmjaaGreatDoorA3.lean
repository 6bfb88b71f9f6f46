/-
  Tags by their paths, pages of them.
-/
import Derived.Test.YtmgenobllanmjaaGreatDoorV3
import Derived.Test.YtmgenobllanmjaaGreatDoorFA
set_option maxRecDepth 100000
set_option linter.unusedVariables false
set_option linter.unusedSimpArgs false
namespace Go.Proofs.YtmgenobllanmjaaGreatDoor.vars
open Go Go.Sx
theorem z2_ {a:AV} (h:okC a=true):okL [a]=true:=by simp only [okL,h]
theorem iaP (s:SV u8_ 1) {i:Nat} (h:i<s.l.length):(XOp.iaddr 60).run Tryz.prog [s.x,.int .i64 (i:Int)]=some (.vptr (a9_ u8_ (s.l.drop i))):=s.h.ia (e:=9) Tryz.underlying60 (ti:=(Tryz.prog.info? 9).get!) (by kernel_rfl) (by kernel_rfl) zZ_ h .i64
theorem ldP {l:List (List UInt8)} {i:Nat} (h:i<l.length):(XOp.load 9).run Tryz.prog [.vptr (a9_ u8_ (l.drop i))]=some (.str l[i]):=by rw [List.drop_eq_getElem_cons h];exact tG_ Tryz.underlying9 rfl _ _
theorem iaV (s:SV u_ 3) {i:Nat} (h:i<s.l.length):(XOp.iaddr 42).run Tryz.prog [s.x,.int .i64 (i:Int)]=some (.vptr (a9_ u_ (s.l.drop i))):=s.h.ia (e:=27) Tryz.underlying42 (ti:=(Tryz.prog.info? 27).get!) (by kernel_rfl) (by kernel_rfl) zh_ h .i64
theorem ldV {l:List FV} {i:Nat} (h:i<l.length):(XOp.load 27).run Tryz.prog [.vptr (a9_ u_ (l.drop i))]=some (.agg (u_ l[i])):=tF_ (ti:=(Tryz.prog.info? 27).get!) Tryz.underlying27 rfl (by kernel_rfl) (by kernel_rfl) zh_ h
def wR_ (v:FV):Bool:=decide (v.k=0)&&(decide (v.i=0)&&decide (n_ v.f=0))
def ub_ (s:List UInt8):Bool:=decide (s.length<1)||decide (20<s.length)
theorem EI_ {n:Nat}:decide ((n:Int)=0)=decide (n=0):=decide_eq_decide.2 (by omega)
end Go.Proofs.YtmgenobllanmjaaGreatDoor.vars
set_option linter.unusedVariables false
namespace Go.Proofs.YtmgenobllanmjaaGreatDoor.vars
open Go Go.Sx
def st (c:Nat):Nat:=if c%2=1 then (c/2)^^^3988292384 else c/2
def st4 (c:Nat):Nat:=st (st (st (st c)))
theorem xG_ {c:Nat} (h:c<4294967296):st c<4294967296:=by unfold st;split;exact Nat.xor_lt_two_pow (n:=32) (by omega) (by omega);omega
def wU_:Nat->List UInt8->Nat
 |c,[]=>c
 |c,b::r=>wU_ (st4 (st4 (c^^^b.toNat))) r
def xR_ (l:List UInt8):Nat:=4294967295-wU_ 4294967295 l
theorem yW_ {c:Nat} (h:c<4294967296):st4 c<4294967296:=xG_ (xG_ (xG_ (xG_ h)))
theorem x2_ {c:Nat} (h:c<4294967296) (b:UInt8):c^^^b.toNat<4294967296:=Nat.xor_lt_two_pow (n:=32) (by omega) (by have:=b.toNat_lt;omega)
theorem x4_:∀(l:List UInt8) {c:Nat},c<4294967296->wU_ c l<4294967296
 |[],c,h=>h
 |b::r,c,h=>x4_ r (yW_ (yW_ (x2_ h b)))
theorem w6_:∀(l:List UInt8) (c:Nat) (b:UInt8),wU_ c (l++[b])=st4 (st4 (wU_ c l^^^b.toNat))
 |[],c,b=>rfl
 |x::l,c,b=>w6_ l _ b
theorem wy_ (a:Nat) (h:a<4294967296):(BitVec.ofInt 32 (a:Int)).toNat=a:=by rw [BitVec.toNat_ofInt];show ((a:Int)%4294967296).toNat=a;omega
theorem xn_ {n:Nat} (h:n<4294967296):IntKind.u32.wrap (n:Int)=(n:Int):=by simp [IntKind.wrap,IntKind.bits,IntKind.signed];omega
theorem w4_ (P:Program) (t:TypeId) (cx cy:Bool) {a b:Nat} (ha:a<4294967296) (hb:b<4294967296):(XOp.bin .xor t cx cy).run P [.int .u32 (a:Int),.int .u32 (b:Int)]=some (.int .u32 ((a^^^b:Nat):Int)):=by refine (show _=some (AV.int .u32 (IntKind.u32.wrap ((BitVec.ofInt 32 (a:Int)^^^BitVec.ofInt 32 (b:Int)).toNat:Int))) by kernel_rfl).trans ?_;rw [BitVec.toNat_xor,wy_ a ha,wy_ b hb,xn_ (Nat.xor_lt_two_pow (n:=32) ha hb)]
theorem yn_ (P:Program) {a:Nat} (ha:a<4294967296):(XOp.un .xor).run P [.int .u32 (a:Int)]=some (.int .u32 ((4294967295-a:Nat):Int)):=by
 have hm:(if IntKind.u32.signed=true then (-1:Int)else IntKind.u32.max)=((4294967295:Nat):Int):=by decide
 have e0:(XOp.un .xor).run P [.int .u32 (a:Int)]=some (AV.int .u32 (IntKind.u32.wrap ((BitVec.ofInt 32 (if IntKind.u32.signed=true then (-1:Int)else IntKind.u32.max)^^^BitVec.ofInt 32 (a:Int)).toNat:Int))):=by show some (mkI .u32 (e7_ .u32 _))=_;rw [cA_,cp_];rfl
 rw [e0,hm];have e:4294967295^^^a=4294967295-a:=by have h1:(BitVec.allOnes 32^^^BitVec.ofNat 32 a).toNat=4294967295-a:=(by rw [BitVec.allOnes_xor,BitVec.toNat_not,BitVec.toNat_ofNat];omega);rw [←h1,BitVec.toNat_xor,BitVec.toNat_allOnes,BitVec.toNat_ofNat,Nat.mod_eq_of_lt (by omega)]
 rw [BitVec.toNat_xor,wy_ _ (by omega),wy_ a ha,e,xn_ (by omega)]
theorem zc_ (c:UInt8):(XOp.conv 5 122).run Tryz.prog [.int .u8 (c.toNat:Int)]=some (.int .u32 (c.toNat:Int)):=by have:=UInt8.toNat_lt c;rw [ur_ Tryz.underlying5 Tryz.underlying122,xn_ (by omega)]
end Go.Proofs.YtmgenobllanmjaaGreatDoor.vars
