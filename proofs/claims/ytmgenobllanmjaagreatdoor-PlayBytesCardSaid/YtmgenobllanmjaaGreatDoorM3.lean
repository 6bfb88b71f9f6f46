/-
  Messages written.
-/
import Derived.Test.YtmgenobllanmjaaGreatDoorA3
import Derived.Test.YtmgenobllanmjaaGreatDoorFA
set_option maxRecDepth 100000
set_option linter.unusedVariables false
set_option linter.unusedSimpArgs false
namespace Go.Proofs.YtmgenobllanmjaaGreatDoor.vars
open Go Go.Sx
def Z_ (b:Bool):UInt8:=if b=true then 1 else 0
def u8 (n:Int):UInt8:=UInt8.ofNat (n%256).toNat
theorem wf_ {t:TypeId} (ht:Tryz.prog.underlying t=some (.int .i64)) (n:Int):(XOp.conv t 5).run Tryz.prog [.int .i64 n]=some (.int .u8 ((u8 n).toNat:Int)):=by
 rw [ur_ ht Tryz.underlying5];have h0:0<=n%256:=Int.emod_nonneg _ (by decide);have h1:n%256<256:=Int.emod_lt_of_pos _ (by decide);unfold u8;rw [h4_ h0 h1]
 congr 2
def o_ (m:GM):List UInt8:=u8 m.kind::(d_ m.id 2++(d_ m.n 2++(d_ m.seq 2++(u8 m.err::Z_ m.lost::d_ m.every 8))))
def y_ (v:FV):List UInt8:=if wR_ v=true then [0]else w_ (cP v)
def A_ (s:List UInt8):List UInt8:=u8 (s.length:Int)::s
def ws_ (m:GM):List UInt8:=o_ m++y_ m.band++[u8 (m.paths.l.length:Int)]++m.paths.l.flatMap A_++[u8 (m.vals.l.length:Int)]++m.vals.l.flatMap λv=>w_ (cP v)
theorem zM_ {l:List UInt8} {x:AV} (h:By l x) {a b:List UInt8} (ha:a≠[]) (hb:b=a++l) (hl:b.length<=1000000):(XOp.app 1 1).run Tryz.prog [jW_ a_ 1 a,x]=some (jW_ a_ 1 b):=by subst hb;exact K_ h a (by rw [List.length_append]at hl;exact hl)
theorem xH_ {a b:List UInt8} (c:UInt8) (ha:a≠[]) (hb:b=a++[c]) (hl:b.length<=1000000):(XOp.app 1 1).run Tryz.prog [jW_ a_ 1 a,.agg [.int .u8 (c.toNat:Int)]]=some (jW_ a_ 1 b):=by subst hb;have h:=uZ_ (P:=Tryz.prog) (enc:=a_) (sz:=1) (bytes:=1) ev_ (by decide) (by decide) a c (by rw [List.length_append]at hl;simp at hl;omega);rw [wT_ ha,wT_ (by simp)]at h;exact h
theorem wX_:∀s:List UInt8,gQ_ s=a9_ a_ s
 |[]=>rfl
 |b::r=>by unfold gQ_ a9_;rw [wX_ r];rfl
theorem zN_ (s:List UInt8):by_ 1 (.str s)=some (s.length,a9_ a_ s):=by show (match ak_ ⟨hnil,0,0⟩ (.str s) (hd_ s) 1 with|some l=>some (hd_ s,l)|none=>none)=_;rw [cF_];show some (s.length,gQ_ (k7_ s.length s))=_;rw [jL_,List.take_length,wX_]
theorem yq_ (s:List UInt8) {a b:List UInt8} (hb:b=a++s) (hl:b.length<=1000000):(XOp.app 1 1).run Tryz.prog [jW_ a_ 1 a,.str s]=some (jW_ a_ 1 b):=by
 subst hb;have e:(XOp.app 1 1).run Tryz.prog [jW_ a_ 1 a,.str s]=(XOp.app 1 1).run Tryz.prog [jW_ a_ 1 a,jW_ a_ 1 s]:=by show (match by_ 1 (.str s)with|some (n,l')=>iA_ 1 1 (jW_ a_ 1 a) n l'|none=>none)=(match by_ 1 (jW_ a_ 1 s)with|some (n,l')=>iA_ 1 1 (jW_ a_ 1 a) n l'|none=>none);rw [zN_,wF_ (SlV.v s)]
 rw [e];exact K_ (SlV.v s) a (by rw [List.length_append]at hl;exact hl)
theorem vs_ (v:PV):(w_ v).length<=9:=by rw [am_,List.length_cons,b_];have:=nK_ v.k;omega
theorem wM_ (m:GM) (l:List UInt8):o_ m++l≠[]:=by unfold o_;exact List.cons_ne_nil _ _
theorem yB_ (m:GM):(o_ m).length=17:=by unfold o_;simp only [List.length_cons,List.length_append,b_]
theorem wG_ {s:List UInt8} (h:ub_ s=false):s.length<=20:=by unfold ub_ at h;simp only [Bool.or_eq_false_iff,decide_eq_false_iff_not]at h;omega
theorem ww_ {α:Type} {f:α->List UInt8} {n:Nat}:∀(l:List α),(∀a∈l,(f a).length<=n)->(l.flatMap f).length<=l.length*n
 |[],_=>by simp
 |a::r,h=>by have h1:=h a List.mem_cons_self;have h2:=ww_ r λb hb=>h b (List.mem_cons_of_mem _ hb);rw [List.flatMap_cons,List.length_append,List.length_cons,Nat.succ_mul];omega
structure MayM (m:GM):Prop where
 pl:m.paths.l.length<=5
 vl:m.vals.l.length<=5
 ps:∀s∈m.paths.l,s.length<=20
 vs:∀v∈m.vals.l,P_ v=true
 band:wR_ m.band=false->P_ m.band=true
def ft14:FT:=⟨1,⟨[(0,.ptr 0 0),(1,.slx 2 0 0)],[pk (.slx 0 0 0) (.slx 1 0 0)],1,3,[],[],[]⟩,[(false,⟨[(0,.slx 0 0 0)],[pk (.sym 64) (.slx 1 0 0)],1,2,[],[],[]⟩)]⟩
def ft32:FT:=⟨1,⟨[(0,.ptr 0 0),(1,.slx 2 0 0)],[pk (.slx 0 0 0) (.slx 1 0 0)],1,3,[],[],[]⟩,[(false,⟨[(0,.agg (hs 0 3))],[pk (.sym 64) (.slx 3 0 0)],1,4,[],[],[]⟩)]⟩
def zU_:FT:=ft14
def ft58:FT:=⟨1,⟨[(0,.ptr 0 0)],[pk (.slx 0 0 0) (.slx 1 0 0)],1,2,[],[],[]⟩,[(false,⟨[(0,.slx 0 0 0)],[pk (.sym 64) (.slx 1 0 0)],1,2,[],[],[]⟩)]⟩
def ft16:FT:=⟨1,⟨[(0,.ptr 0 0),(1,.slx 2 0 0)],[pk (.slx 0 0 0) (.slx 1 0 0)],1,3,[],[],[]⟩,[(false,⟨[(0,.agg (hs 0 12))],[pk (.sym 64) (.slx 12 0 0)],1,13,[],[],[]⟩)]⟩
def ft5:FT:=⟨0,⟨[(0,.slx 0 0 0)],[],0,1,[],[],[]⟩,[(false,⟨[(0,.ptr 0 0)],[pk (.sym 64) (.int .i64 0)],1,0,[],[],[]⟩)]⟩
def F64 (v:FV):Prop:=∀n,v.f=some n->n<18446744073709551616
theorem F64.z {k i:Int}:F64 ⟨k,i,some 0⟩:=λn h=>by
 have h:some 0=some n:=h;injection h with h
 omega
def Pk (l:List UInt8) (a:AV):Prop:=SlV a_ 1 l a/\l.length<=9223372036854775807
section
variable {l:List UInt8} {a:AV}
theorem zY_ (h:Pk l a):(XOp.len 22).run Tryz.prog [a]=some (.int .i64 (l.length:Int)):=h.1.len Tryz.underlying22
theorem At_ (h:Pk l a) {i:Nat} (hi:i<l.length) {k:IntKind}:(XOp.iaddr 22).run Tryz.prog [a,.int k (i:Int)]=some (.vptr (a9_ a_ (l.drop i))):=h.1.ia (e:=5) Tryz.underlying22 (ti:=(Tryz.prog.info? 5).get!) (by kernel_rfl) (by kernel_rfl) ev_ hi k
theorem B1_ {i:Nat} (hi:i<l.length):(XOp.load 5).run Tryz.prog [.vptr (a9_ a_ (l.drop i))]=some (.int .u8 (l[i].toNat:Int)):=by rw [List.drop_eq_getElem_cons hi];exact tG_ Tryz.underlying5 rfl _ _
end
theorem Ar_ (n:Nat) (h:n<256):(XOp.conv 5 3).run Tryz.prog [.int .u8 (n:Int)]=some (.int .i64 (n:Int)):=by rw [ur_ Tryz.underlying5 Tryz.underlying3,wK_ (by omega) (by omega)]
theorem zr_ (x m:Nat) (h:0<m) (h2:m<9223372036854775808) (t:TypeId) (cx cy:Bool):(XOp.bin .rem t cx cy).run Tryz.prog [.int .i64 (x:Int),.int .i64 (m:Int)]=some (.int .i64 ((x%m:Nat):Int)):=by
 have:(x:Int).tmod (m:Int)=((x%m:Nat):Int):=by rw [Int.tmod_eq_emod_of_nonneg (by omega)];rfl
 show bI_ Tryz.prog .rem t cx cy (.int .i64 (x:Int)) (.int .i64 (m:Int))=_;exact tE_ (by omega) this t cx cy
theorem x3_ {x y z:Int} {t:TypeId} {cx cy:Bool} (h:x-y=z) (h1: -9223372036854775807<=z) (h2:z<=9223372036854775807):(XOp.bin .sub t cx cy).run Tryz.prog [.int .i64 x,.int .i64 y]=some (.int .i64 z):=by rw [run_sub,h,wK_ (by omega) (by omega)]
def RN (l:List UInt8) (m:Nat):Nat->List AV->Prop:=λ_ ws=>∃v n:Nat,ws=[.int .i64 (v:Int),.int .i64 (n:Int)]/\v<m/\n<=l.length
def c14:VC:=⟨⟨[],[]⟩,[],[],1,true,[]⟩
def t14:VT:=Li Qc [64] 67<|It Zx [65,67] 68 (Dn [J 0,65])<|Li Q4 [65,J 1] 69<|Li Qp [69,J 1] 70<|Li Qz [64,70] 71<|Li Z0 [71] 72<|Li (.conv 5 3) [72] 73<|Li (.bin .rem 3 false false) [73,66] 74<|Dn [74,69]
theorem p14 {l:List UInt8} {a:AV} {n m:Nat} (h:Pk l a) (hn:n<=l.length) (hm:0<m) (hm2:m<=1000):CF Tryz.prog 14 ft14 [a,.int .i64 (n:Int),.int .i64 (m:Int)] (RN l m):=by
 have hb:=h.2;refine wb_ (c:=c14) (n:=300) (t:=t14) mo ov rfl (λY _=>wB_ _) (by kernel_rfl) λY hf hg=>?_;unfold t14;refine wt_ (zY_ h) rfl (wt_ (run_geq ..) rfl (v8_ rfl (λh1=>VOK_fin rfl ⟨0,n,rfl,hm,hn⟩) (λh1=>?_)));have h1:n<l.length:=by simpa using h1
 refine wt_ (R_ (by omega) (by omega)) rfl (wt_ (x3_ (z:=n) (by omega) (by omega) (by omega)) rfl (wt_ (At_ h h1) (lm_ c_ _) (wt_ (B1_ h1) rfl (wt_ (Ar_ _ (UInt8.toNat_lt _)) rfl (wt_ (zr_ _ _ hm (by omega) ..) rfl (VOK_fin rfl ⟨l[n].toNat%m,n+1,rfl,Nat.mod_lt _ hm,h1⟩))))))
theorem Cc_ {a:AV} (h:okC a=true) {n:Int}:okL [a,.int .i64 n]=true:=by simp only [okL,okC,h]
theorem C_ {a:AV} (h:okC a=true) {n m:Int}:okL [a,.int .i64 n,.int .i64 m]=true:=by simp only [okL,okC,h]
def WT:List Int:=[0,1,2,3,(-1),7,32767,(-32768),2147483647,(-2147483648),100,9223372036854775807,(-9223372036854775808)]
theorem k47:∀(i:Nat) (h:i<13),∃r:Int,iu_ Tryz.prog 63 [.int .i64 2,.int .i64 (WT.getD i 0)] (.int .i64 r)
 |0,_=>⟨0,we_ mo ov (n:=300) (by kernel_rfl)⟩
 |1,_=>⟨1,we_ mo ov (n:=300) (by kernel_rfl)⟩
 |2,_=>⟨2,we_ mo ov (n:=300) (by kernel_rfl)⟩
 |3,_=>⟨3,we_ mo ov (n:=300) (by kernel_rfl)⟩
 |4,_=>⟨(-1),we_ mo ov (n:=300) (by kernel_rfl)⟩
 |5,_=>⟨7,we_ mo ov (n:=300) (by kernel_rfl)⟩
 |6,_=>⟨32767,we_ mo ov (n:=300) (by kernel_rfl)⟩
 |7,_=>⟨(-32768),we_ mo ov (n:=300) (by kernel_rfl)⟩
 |8,_=>⟨(-1),we_ mo ov (n:=300) (by kernel_rfl)⟩
 |9,_=>⟨0,we_ mo ov (n:=300) (by kernel_rfl)⟩
 |10,_=>⟨100,we_ mo ov (n:=300) (by kernel_rfl)⟩
 |11,_=>⟨(-1),we_ mo ov (n:=300) (by kernel_rfl)⟩
 |12,_=>⟨0,we_ mo ov (n:=300) (by kernel_rfl)⟩
theorem iaW {i:Nat} (h:i<13):(XOp.iaddr 196).run Tryz.prog [jW_ yv_ 1 WT,.int .i64 (i:Int)]=some (.vptr (a9_ yv_ (WT.drop i))):=(SlV.v WT).ia (e:=2) Tryz.underlying196 (ti:=(Tryz.prog.info? 2).get!) (by kernel_rfl) (by kernel_rfl) B4_ (by simp [WT];omega) .i64
theorem B2_ {i:Nat} (h:i<WT.length):(XOp.load 2).run Tryz.prog [.vptr (a9_ yv_ (WT.drop i))]=some (.int .i64 (WT.getD i 0)):=by rw [List.drop_eq_getElem_cons h,List.getD_eq_getElem?_getD,List.getElem?_eq_getElem h];exact tG_ Tryz.underlying2 rfl _ _
def RI (l:List UInt8):Nat->List AV->Prop:=λ_ ws=>∃(v:Int) (n:Nat),ws=[.int .i64 v,.int .i64 (n:Int)]/\n<=l.length
def c59:VC:=⟨⟨[],[]⟩,[(63,[none])],[],1,true,[(14,ft14)]⟩
def t59:VT:=Cf 14 ft14 [64,65,J 13] 67 2<|Li (.iaddr 196) [.vsl 13 1 [J 0,J 1,J 2,J 3,.int .i64 (-1),J 7,J 32767,.int .i64 (-32768),J 2147483647,.int .i64 (-2147483648),J 100,J 9223372036854775807,.int .i64 (-9223372036854775808)],70] 72<|Li (.load 2) [72] 73<|.call 63 [66,73] 74 [none]<|Dn [74,71]
theorem p59 {l:List UInt8} {a:AV} {n:Nat} (h:Pk l a) (hn:n<=l.length):CF Tryz.prog 59 zU_ [a,.int .i64 (n:Int),.int .i64 2] (RI l):=by have hA:=h.1.ok c_;refine wb_ (c:=c59) (n:=300) (t:=t59) mo ov rfl (λY _=>wB_ _) (by kernel_rfl) λY hf hg=>?_;unfold t59;refine m_ (p14 h hn (m:=13) (by decide) (by decide)) rfl (C_ hA) ⟨?_,trivial⟩;rintro ws ⟨v,k,rfl,hv,hk⟩;obtain ⟨r,hr⟩:=k47 v hv;exact wt_ (iaW hv) (lm_ okI _) (wt_ (B2_ (by simp [WT];omega)) rfl (vy_ hr rfl rfl (VOK_fin rfl ⟨r,k,rfl,hk⟩)))
def RT:List (Option Nat):=[some 0,some 9223372036854775808,some 4607182418800017408,some 13830554455654793216,some 4602678819172646912,some 4612811918334230528,some 13838998704956112896,some 9094988921128908188,some 2024,some 9218868437227405312,some 18442240474082181120,none,some 4674736413210574848,some 4891288408196988160,some 4636737291354636288]
def yb_ (o:Option Nat):List AV:=[fv o]
theorem B3_ (o:Option Nat):(yb_ o).length=1:=rfl
theorem okF (o:Option Nat):okL (yb_ o)=true:=by simp only [yb_,okL,wO_]
theorem iaF {i:Nat} (h:i<15):(XOp.iaddr 195).run Tryz.prog [jW_ yb_ 1 RT,.int .i64 (i:Int)]=some (.vptr (a9_ yb_ (RT.drop i))):=(SlV.v RT).ia (e:=25) Tryz.underlying195 (ti:=(Tryz.prog.info? 25).get!) (by kernel_rfl) (by kernel_rfl) B3_ (by simp [RT];omega) .i64
theorem ldF {i:Nat} (h:i<RT.length):(XOp.load 25).run Tryz.prog [.vptr (a9_ yb_ (RT.drop i))]=some (fv (RT.getD i none)):=by rw [List.drop_eq_getElem_cons h,List.getD_eq_getElem?_getD,List.getElem?_eq_getElem h];exact tG_ Tryz.underlying25 rfl _ _
def RF (l:List UInt8):Nat->List AV->Prop:=λ_ ws=>∃(v:Option Nat) (n:Nat),ws=[fv v,.int .i64 (n:Int)]/\n<=l.length/\∀m,v=some m->m<18446744073709551616
theorem rt_lt:∀i,i<15->∀m,RT.getD i none=some m->m<18446744073709551616:=by
 have h:∀i,i<15->(match RT.getD i none with|some m=>decide (m<18446744073709551616)|none=>true)=true:=by decide
 intro i hi m hm;have:=h i hi;rw [hm]at this;exact of_decide_eq_true this
def c58:VC:=⟨⟨[],[]⟩,[],[],1,true,[(14,ft14)]⟩
def t58:VT:=Cf 14 ft14 [64,65,J 15] 66 2<|Li (.iaddr 195) [.vsl 15 1 [.flt .f64 0,.flt .f64 9223372036854775808,.flt .f64 4607182418800017408,.flt .f64 13830554455654793216,.flt .f64 4602678819172646912,.flt .f64 4612811918334230528,.flt .f64 13838998704956112896,.flt .f64 9094988921128908188,.flt .f64 2024,.flt .f64 9218868437227405312,.flt .f64 18442240474082181120,.nan .f64,.flt .f64 4674736413210574848,.flt .f64 4891288408196988160,.flt .f64 4636737291354636288],69] 71<|Li (.load 25) [71] 72<|Dn [72,70]
theorem p58 {l:List UInt8} {a:AV} {n:Nat} (h:Pk l a) (hn:n<=l.length):CF Tryz.prog 58 ft58 [a,.int .i64 (n:Int)] (RF l):=by have hA:=h.1.ok c_;refine wb_ (c:=c58) (n:=300) (t:=t58) mo ov rfl (λY _=>wB_ _) (by kernel_rfl) λY hf hg=>?_;unfold t58;refine m_ (p14 h hn (m:=15) (by decide) (by decide)) rfl (C_ hA) ⟨?_,trivial⟩;rintro ws ⟨v,k,rfl,hv,hk⟩;exact wt_ (iaF hv) (lm_ okF _) (wt_ (ldF (by simp [RT];omega)) (wO_ _) (VOK_fin (by show okL [fv _,.int .i64 (k:Int)]=true;simp only [okL,okC,wO_]) ⟨_,k,rfl,hk,rt_lt _ hv⟩))
def RV (l:List UInt8):Nat->List AV->Prop:=λ_ ws=>∃(v:FV) (n:Nat),ws=u_ v++[.int .i64 (n:Int)]/\n<=l.length/\F64 v
theorem Cd_ (v:FV) (n:Int):okL (u_ v++[.int .i64 n])=true:=lm_.okL_join (okV v) rfl
def c32:VC:=⟨⟨[],[]⟩,[],[],1,true,[(14,ft14),(59,zU_),(58,ft58)]⟩
def t32:VT:=Iq 66 1 67 (Cf 14 ft14 [64,65,J 2] 68 2<|Dn [J 1,71,.flt .f64 0,72])<|Iq 66 5 68 (Cf 58 ft58 [64,65] 69 2<|Dn [J 5,J 0,71,72])<|Cf 59 zU_ [64,65,66] 69 2<|Dn [66,72,.flt .f64 0,73]
theorem p32 {l:List UInt8} {a:AV} {n:Nat} (h:Pk l a) (hn:n<=l.length) {k:Int} (hk:k=1\/k=2\/k=5):CF Tryz.prog 32 ft32 [a,.int .i64 (n:Int),.int .i64 k] (RV l):=by
 have hA:=h.1.ok c_;refine wb_ (c:=c32) (n:=300) (t:=t32) mo ov rfl (λY _=>wB_ _) (by kernel_rfl) λY hf hg=>?_;unfold t32;refine wt_ (run_eql ..) rfl (v8_ rfl (λk1=>?_) (λk1=>?_));refine m_ (p14 h hn (m:=2) (by decide) (by decide)) rfl (C_ hA) ⟨?_,trivial⟩;rintro ws ⟨v,k,rfl,hv,hk⟩;exact VOK_fin rfl ⟨⟨1,v,some 0⟩,k,rfl,hk,F64.z⟩;have k1:¬k=1:=dF k1;refine wt_ (run_eql ..) rfl (v8_ rfl (λk5=>?_) (λk5=>?_));refine m_ (p58 h hn) rfl (Cc_ hA) ⟨?_,trivial⟩;rintro ws ⟨v,k,rfl,hk,hv⟩;exact VOK_fin (Cd_ ⟨5,0,v⟩ k) ⟨⟨5,0,v⟩,k,rfl,hk,hv⟩;have k5:¬k=5:=dF k5;obtain rfl:k=2:=by omega
 refine m_ (p59 h hn) rfl (C_ hA) ⟨?_,trivial⟩;rintro ws ⟨v,k,rfl,hk⟩;exact VOK_fin rfl ⟨⟨2,v,some 0⟩,k,rfl,hk,F64.z⟩
def c5:VC:=⟨⟨[],[]⟩,[],[],0,true,[]⟩
def t5:VT:=Dn []
theorem p5 (a:AV) (h:okC a=true):CF Tryz.prog 5 ft5 [a] (λ_ ws=>ws=[]):=by refine wb_ (c:=c5) (n:=300) (t:=t5) mo ov rfl (λY _=>wB_ _) (by kernel_rfl) λY hf hg=>?_;unfold t5;exact VOK_fin rfl rfl
def c16:VC:=⟨⟨[],[]⟩,[(31,[none])],[(20015,[⟨[],[],0,0,[],[],[]⟩]),(1,[⟨[(7,.slx 0 0 0),(6,.ptr 2 0),(0,.ptr 0 0),(5,67),(4,.ptr 1 0)],[(2,[73,66,J 0,J 0,J 0,.bool false,J 0,J 0,J 0,.flt .f64 0,.slx 3 1 1,.nsl]),(0,[64,.slx 2 0 0]),(1,[J 0,J 0,J 0,J 0,J 0,.bool false,J 0,J 0,J 0,.flt .f64 0,.nsl,.nsl])],4,3,[⟨3,1,1,2,(some 10)⟩],[],[]⟩]),(3,[⟨[(8,.slx 0 0 0),(6,.ptr 2 0),(0,.ptr 0 0),(4,.ptr 1 0)],[(2,[73,66,J 0,J 0,J 0,.bool false,J 0,J 0,J 0,.flt .f64 0,.slx 3 1 1,.slx 4 3 2]),(0,[64,.slx 3 0 0]),(1,[J 0,J 0,J 0,J 0,J 0,.bool false,J 0,J 0,J 0,.flt .f64 0,.nsl,.nsl])],5,4,[⟨3,1,1,2,(some 10)⟩,⟨4,3,2,2,(some 11)⟩],[],[]⟩])],1,true,[(14,ft14),(32,ft32)]⟩
def Cm_:VT:=Li Qf [93] 94<|Li Qm [86,J 10] 95<|Cf 14 ft14 [64,92,J 2] 96 2<|Iq 99 0 101 (Cf 32 ft32 [64,100,J 2] 102 4<|Dn [73,66,J 0,91,J 0,.bool false,95,105,106,107,.vsl 1 1 [94],.nsl,108])<|Dn [73,66,J 0,91,J 0,.bool false,95,J 0,J 0,.flt .f64 0,.vsl 1 1 [94],.nsl,100]
def Cn_:VT:=Li Qm [86,J 10] 94<|Li Qf [93] 95<|Cf 14 ft14 [64,92,J 2] 96 2<|Iq 99 0 101 (Cf 32 ft32 [64,100,J 2] 102 4<|Dn [73,66,J 0,91,J 0,.bool false,94,105,106,107,.vsl 1 1 [95],.nsl,108])<|Dn [73,66,J 0,91,J 0,.bool false,94,J 0,J 0,.flt .f64 0,.vsl 1 1 [95],.nsl,100]
def Co_:VT:=Li Qm [86,J 10] 93<|Li Qo [67,81] 94<|Li Qf [94] 95<|Cf 14 ft14 [64,92,J 2] 96 2<|Iq 99 0 101 (Cf 32 ft32 [64,100,J 2] 102 4<|Dn [73,66,J 0,91,J 0,.bool false,93,105,106,107,.vsl 1 1 [95],.nsl,108])<|Dn [73,66,J 0,91,J 0,.bool false,93,J 0,J 0,.flt .f64 0,.vsl 1 1 [95],.nsl,100]
def Cp_:VT:=Li Qf [89] 90<|Cf 14 ft14 [64,87,J 4] 91 2<|Cf 14 ft14 [64,95,J 2] 96 2<|Iq 99 0 101 (Cf 32 ft32 [64,100,J 2] 102 4<|Dn [73,66,J 0,94,J 0,.bool false,88,105,106,107,.vsl 1 1 [90],.nsl,108])<|Dn [73,66,J 0,94,J 0,.bool false,88,J 0,J 0,.flt .f64 0,.vsl 1 1 [90],.nsl,100]
def Cq_:VT:=Cf 14 ft14 [64,87,J 4] 90 2<|Li Qf [89] 95<|Cf 14 ft14 [64,94,J 2] 96 2<|Iq 99 0 101 (Cf 32 ft32 [64,100,J 2] 102 4<|Dn [73,66,J 0,93,J 0,.bool false,88,105,106,107,.vsl 1 1 [95],.nsl,108])<|Dn [73,66,J 0,93,J 0,.bool false,88,J 0,J 0,.flt .f64 0,.vsl 1 1 [95],.nsl,100]
def Cr_:VT:=Cf 14 ft14 [64,87,J 4] 89 2<|Li Qo [67,81] 94<|Li Qf [94] 95<|Cf 14 ft14 [64,93,J 2] 96 2<|Iq 99 0 101 (Cf 32 ft32 [64,100,J 2] 102 4<|Dn [73,66,J 0,92,J 0,.bool false,88,105,106,107,.vsl 1 1 [95],.nsl,108])<|Dn [73,66,J 0,92,J 0,.bool false,88,J 0,J 0,.flt .f64 0,.vsl 1 1 [95],.nsl,100]
def Cs_:VT:=Li Qm [86,J 10] 88<|.both (Li (.iaddr 60) [67,81] 89<|.both Cp_ Cq_) Cr_
def Ct_:VT:=Cf 14 ft14 [64,87,J 4] 88 2<|.both (Li (.iaddr 60) [67,81] 93<|.both Cm_ Cn_) Co_
def Cu_:VT:=Li Qf [88] 94<|Li Qm [86,J 10] 95<|Cf 14 ft14 [64,93,J 2] 96 2<|Iq 99 0 101 (Cf 32 ft32 [64,100,J 2] 102 4<|Dn [73,66,J 0,92,J 0,.bool false,95,105,106,107,.vsl 1 1 [94],.nsl,108])<|Dn [73,66,J 0,92,J 0,.bool false,95,J 0,J 0,.flt .f64 0,.vsl 1 1 [94],.nsl,100]
def Cv_:VT:=Li Qm [86,J 10] 94<|Li Qf [88] 95<|Cf 14 ft14 [64,93,J 2] 96 2<|Iq 99 0 101 (Cf 32 ft32 [64,100,J 2] 102 4<|Dn [73,66,J 0,92,J 0,.bool false,94,105,106,107,.vsl 1 1 [95],.nsl,108])<|Dn [73,66,J 0,92,J 0,.bool false,94,J 0,J 0,.flt .f64 0,.vsl 1 1 [95],.nsl,100]
def Cw_:VT:=Li Qf [88] 90<|Cf 14 ft14 [64,87,J 4] 91 2<|Cf 14 ft14 [64,95,J 2] 96 2<|Iq 99 0 101 (Cf 32 ft32 [64,100,J 2] 102 4<|Dn [73,66,J 0,94,J 0,.bool false,89,105,106,107,.vsl 1 1 [90],.nsl,108])<|Dn [73,66,J 0,94,J 0,.bool false,89,J 0,J 0,.flt .f64 0,.vsl 1 1 [90],.nsl,100]
def Cx_:VT:=Cf 14 ft14 [64,87,J 4] 90 2<|Li Qf [88] 95<|Cf 14 ft14 [64,94,J 2] 96 2<|Iq 99 0 101 (Cf 32 ft32 [64,100,J 2] 102 4<|Dn [73,66,J 0,93,J 0,.bool false,89,105,106,107,.vsl 1 1 [95],.nsl,108])<|Dn [73,66,J 0,93,J 0,.bool false,89,J 0,J 0,.flt .f64 0,.vsl 1 1 [95],.nsl,100]
def Cy_:VT:=Li Qm [86,J 10] 89<|.both Cw_ Cx_
def Cz_:VT:=Cf 14 ft14 [64,87,J 4] 89 2<|.both Cu_ Cv_
def CA_:VT:=Li Qm [86,J 10] 90<|Cf 14 ft14 [64,87,J 4] 91 2<|Cf 14 ft14 [64,95,J 2] 96 2<|Iq 99 0 101 (Cf 32 ft32 [64,100,J 2] 102 4<|Dn [73,66,J 0,94,J 0,.bool false,90,105,106,107,.vsl 1 1 [89],.nsl,108])<|Dn [73,66,J 0,94,J 0,.bool false,90,J 0,J 0,.flt .f64 0,.vsl 1 1 [89],.nsl,100]
def CB_:VT:=Cf 14 ft14 [64,87,J 4] 90 2<|Li Qm [86,J 10] 95<|Cf 14 ft14 [64,94,J 2] 96 2<|Iq 99 0 101 (Cf 32 ft32 [64,100,J 2] 102 4<|Dn [73,66,J 0,93,J 0,.bool false,95,105,106,107,.vsl 1 1 [89],.nsl,108])<|Dn [73,66,J 0,93,J 0,.bool false,95,J 0,J 0,.flt .f64 0,.vsl 1 1 [89],.nsl,100]
def CC_:VT:=Li Qo [67,81] 88<|.both (Li (.load 9) [88] 89<|.both CA_ CB_)<|.both Cy_ Cz_
def CD_:VT:=Li Qf [83] 94<|Li Qm [87,J 10] 95<|Cf 14 ft14 [64,93,J 2] 96 2<|Iq 99 0 101 (Cf 32 ft32 [64,100,J 2] 102 4<|Dn [73,66,J 0,92,J 0,.bool false,95,105,106,107,.vsl 1 1 [94],.nsl,108])<|Dn [73,66,J 0,92,J 0,.bool false,95,J 0,J 0,.flt .f64 0,.vsl 1 1 [94],.nsl,100]
def CE_:VT:=Li Qm [87,J 10] 94<|Li Qf [83] 95<|Cf 14 ft14 [64,93,J 2] 96 2<|Iq 99 0 101 (Cf 32 ft32 [64,100,J 2] 102 4<|Dn [73,66,J 0,92,J 0,.bool false,94,105,106,107,.vsl 1 1 [95],.nsl,108])<|Dn [73,66,J 0,92,J 0,.bool false,94,J 0,J 0,.flt .f64 0,.vsl 1 1 [95],.nsl,100]
def CF_:VT:=Li Qf [83] 90<|Cf 14 ft14 [64,88,J 4] 91 2<|Cf 14 ft14 [64,95,J 2] 96 2<|Iq 99 0 101 (Cf 32 ft32 [64,100,J 2] 102 4<|Dn [73,66,J 0,94,J 0,.bool false,89,105,106,107,.vsl 1 1 [90],.nsl,108])<|Dn [73,66,J 0,94,J 0,.bool false,89,J 0,J 0,.flt .f64 0,.vsl 1 1 [90],.nsl,100]
def CG_:VT:=Cf 14 ft14 [64,88,J 4] 90 2<|Li Qf [83] 95<|Cf 14 ft14 [64,94,J 2] 96 2<|Iq 99 0 101 (Cf 32 ft32 [64,100,J 2] 102 4<|Dn [73,66,J 0,93,J 0,.bool false,89,105,106,107,.vsl 1 1 [95],.nsl,108])<|Dn [73,66,J 0,93,J 0,.bool false,89,J 0,J 0,.flt .f64 0,.vsl 1 1 [95],.nsl,100]
def CH_:VT:=Li Qm [87,J 10] 89<|.both CF_ CG_
def CI_:VT:=Cf 14 ft14 [64,88,J 4] 89 2<|.both CD_ CE_
def CL_:VT:=Li Qm [87,J 10] 90<|Cf 14 ft14 [64,88,J 4] 91 2<|Cf 14 ft14 [64,95,J 2] 96 2<|Iq 99 0 101 (Cf 32 ft32 [64,100,J 2] 102 4<|Dn [73,66,J 0,94,J 0,.bool false,90,105,106,107,.vsl 1 1 [89],.nsl,108])<|Dn [73,66,J 0,94,J 0,.bool false,90,J 0,J 0,.flt .f64 0,.vsl 1 1 [89],.nsl,100]
def CJ_:VT:=Cf 14 ft14 [64,88,J 4] 90 2<|Li Qm [87,J 10] 95<|Cf 14 ft14 [64,94,J 2] 96 2<|Iq 99 0 101 (Cf 32 ft32 [64,100,J 2] 102 4<|Dn [73,66,J 0,93,J 0,.bool false,95,105,106,107,.vsl 1 1 [89],.nsl,108])<|Dn [73,66,J 0,93,J 0,.bool false,95,J 0,J 0,.flt .f64 0,.vsl 1 1 [89],.nsl,100]
def CK_:VT:=Li Qm [88,J 10] 90<|Cf 14 ft14 [64,89,J 4] 91 2<|Cf 14 ft14 [64,95,J 2] 96 2<|Iq 99 0 101 (Cf 32 ft32 [64,100,J 2] 102 4<|Dn [73,66,J 0,94,J 0,.bool false,90,105,106,107,.vsl 1 1 [84],.nsl,108])<|Dn [73,66,J 0,94,J 0,.bool false,90,J 0,J 0,.flt .f64 0,.vsl 1 1 [84],.nsl,100]
def AY_:VT:=Cf 14 ft14 [64,89,J 4] 90 2<|Li Qm [88,J 10] 95<|Cf 14 ft14 [64,94,J 2] 96 2<|Iq 99 0 101 (Cf 32 ft32 [64,100,J 2] 102 4<|Dn [73,66,J 0,93,J 0,.bool false,95,105,106,107,.vsl 1 1 [84],.nsl,108])<|Dn [73,66,J 0,93,J 0,.bool false,95,J 0,J 0,.flt .f64 0,.vsl 1 1 [84],.nsl,100]
def AZ_:VT:=Li Qf [83] 84<|Cf 14 ft14 [64,82,J 4] 85 2<|.both CK_ AY_
def A0_:VT:=Cf 14 ft14 [64,82,J 4] 84 2<|.both (Li (.load 9) [83] 89<|.both CL_ CJ_)<|.both CH_ CI_
def A1_:VT:=Cf 14 ft14 [64,82,J 4] 83 2<|.both CC_<|.both Cs_ Ct_
def t16:VT:=.call 31 [] 67 [none]<|Cf 14 ft14 [64,65,J 5] 68 2<|Li (.bin .add 3 true false) [J 1,71] 73<|Iq 73 1 74 (Cf 14 ft14 [64,72,J 3] 75 2<|Li Q4 [78,J 1] 80<|.loop 81 0 [80,.nsl,79] (.cons 3 (It Qg [81,J 0] 84 (Cf 14 ft14 [64,83,J 10] 85 2<|Li Qo [67,88] 90<|Li Qf [90] 91<|Li Zu [82,.agg [91]] 92<|Li Qp [81,J 1] 93<|.again 0 0 [93,92,89])<|Dn [73,66,J 0,J 0,J 0,.bool false,J 0,J 0,J 0,.flt .f64 0,82,.nsl,83]) .nil))<|Iq 73 2 75 (Cf 14 ft14 [64,72,J 2] 76 2<|Li Q4 [79,J 1] 81<|.loop 82 0 [81,.nsl,.nsl,80] (.cons 4 (It Qg [82,J 0] 86 (Cf 14 ft14 [64,85,J 6] 87 2<|Li Qo [.vsl 6 1 [.str [120],.str [107,91,48,93],.str [114],.str [120],.str [107,91,49,93],.str [111]],90] 92<|Li Qf [92] 93<|Li Zu [83,.agg [93]] 94<|Cf 14 ft14 [64,91,J 4] 95 2<|Iq 90 2 100 (Cf 32 ft32 [64,99,J 5] 101 4<|Li Zo [84,.agg [104,105,106]] 108<|Li Qp [82,J 1] 109<|.again 0 0 [109,94,108,107])<|Li Zo [84,.agg [J 2,98,.flt .f64 0]] 101<|Li Qp [82,J 1] 102<|.again 0 0 [102,94,101,99])<|Dn [73,66,J 0,J 0,J 0,.bool false,J 0,J 0,J 0,.flt .f64 0,83,84,85]) .nil))<|Iq 73 3 76 (Cf 14 ft14 [64,72,J 12] 77 2<|Dn [73,66,J 0,80,J 0,.bool false,J 0,J 0,J 0,.flt .f64 0,.nsl,.nsl,81])<|Iq 73 4 77 (Cf 14 ft14 [64,72,J 9] 78 2<|.both (Li (.iaddr 60) [67,81] 83<|.both AZ_ A0_) A1_)<|Cf 14 ft14 [64,72,J 4] 78 2<|Dn [73,66,J 0,81,J 0,.bool false,J 0,J 0,J 0,.flt .f64 0,.nsl,.nsl,82]
theorem s_ {P:Program} {Q:AV->Prop} {L:List (Nat->List AV->Prop)} {Y:Sy} {a b:VT} (h1:VOK P Q L Y a) (h2:VOK P Q L Y b):VOK P Q L Y (.both a b):=⟨h1,h2⟩
def PL:List (List UInt8):=[[110],[120],[114],[107,91,48,93],[107,91,49,93],[111],[97],[98],[122,122],[107,91,57,93]]
def PT:SV u8_ 1:=.v PL
def PW:SV u8_ 1:=.v [[120],[107,91,48,93],[114],[120],[107,91,49,93],[111]]
theorem k24:iu_ Tryz.prog 31 [] PT.x:=we_ mo ov (n:=300) (by kernel_rfl)
def FM (m:GM):Prop:=F64 m.band/\∀v∈m.vals.l,F64 v
theorem FM.z {kind id err n seq:Int} {lost:Bool} {every:Int} {p:SV u8_ 1} {w:FV} (h:F64 w):FM ⟨kind,id,err,n,seq,lost,every,w,p,.nil⟩:=⟨h,λv h=>by cases h⟩
def Ask (id:Int) (m:GM):Prop:=m.id=id/\m.Sm/\1<=m.kind/\m.kind<=5/\FM m
def Aj_ (l:List UInt8) (id:Int):Nat->List AV->Prop:=λ_ ws=>∃(m:GM) (n:Nat),ws=Q_ m++[.int .i64 (n:Int)]/\Ask id m/\n<=l.length
theorem yg_ {P:Program} {L:List (Nat->List AV->Prop)} {Y:Sy} {l:List UInt8} {id:Int} {m:GM} {n:Nat} {hv:List AV} (h:ab_ Y.v hv=Q_ m++[.int .i64 (n:Int)]) (h1:Ask id m) (hn:n<=l.length):VOK P (QF (Aj_ l id)) L Y (.done (.tup (.int .i64 0::hv))):=
 VOK_fin (by rw [h];exact lm_.okL_join (okM m) rfl) ⟨m,n,h,h1,hn⟩
theorem sm1 (kind id err n seq:Int) (lost:Bool) (every:Int) (band:FV) (p:List UInt8):GM.Sm ⟨kind,id,err,n,seq,lost,every,band,.v [p],.nil⟩:=⟨by show 1<=1000;decide,Nat.zero_le _⟩
theorem p16 {l:List UInt8} {a:AV} {n:Nat} (hp:Pk l a) (hn:n<=l.length) (id:Int):CF Tryz.prog 16 ft16 [a,.int .i64 (n:Int),.int .i64 id] (Aj_ l id):=by
 have hA:=hp.1.ok c_;have hb:=hp.2;refine wb_ (c:=c16) (n:=300) (t:=t16) mo ov rfl (λY _=>wB_ _) (by kernel_rfl) λY hf hg=>?_;unfold t16;refine vy_ k24 rfl (by simp only [okL,PT.ok okP]) ?_
 (refine m_ (p14 hp hn (m:=5) (by decide) (by decide)) rfl (C_ hA) ⟨?_,trivial⟩;rintro ws ⟨v,n,rfl,hv,hn⟩)
 refine wt_ (R_ (by omega) (by omega)) rfl ?_;have hv5:=hv;refine wt_ (run_eql ..) rfl (v8_ rfl (λk1=>?_) (λk1=>?_))
 ·(refine m_ (p14 hp hn (m:=3) (by decide) (by decide)) rfl (C_ hA) ⟨?_,trivial⟩;rintro ws ⟨v,n,rfl,hv,hn⟩)
  refine wt_ (R_ (by omega) (by omega)) rfl ?_;refine vA_ (ι:=Nat×List (List UInt8)×Nat) (λx=>[.int .i64 (x.1:Int),bb_ u8_ 1 x.2.1,.int .i64 (x.2.2:Int)]) (λx=>x.1+x.2.1.length<=3/\x.2.2<=l.length) (λx=>x.1) (v+1,[],n) ⟨by show v+1+0<=3;omega,hn⟩ rfl (λ_ _=>by simp only [okL,okC,u3_ okP]) (λx y _ _ h=>?_) (λx hx=>?_)
  .have h:=(List.cons.inj h).1;injection h with _ h
   omega
  obtain ⟨i,ps,n⟩:=x;obtain ⟨hi,hn⟩:=hx;simp only at hi hn⊢;refine wt_ (run_gtr ..) rfl (v8_ rfl (λhc=>?_) (λhc=>?_))
  .have hc:(0:Int)<(i:Int):=dT hc
   (refine m_ (p14 hp hn (m:=10) (by decide) (by decide)) rfl (C_ hA) ⟨?_,trivial⟩;rintro ws ⟨v,n,rfl,hv,hn⟩)
   refine wt_ (iaP PT hv) (lm_ okP _) (wt_ (ldP hv) rfl (wt_ (uZ_ zZ_ (by decide) (by decide) ps _ (by omega)) (u3_ okP _) (wt_ (x3_ (z:=((i-1:Nat):Int)) (by omega) (by omega) (by omega)) rfl (vm_ rfl ⟨(i-1,ps++[_],n),⟨?_,hn⟩,rfl,by show i-1<i;omega⟩))));show i-1+(ps++[_]).length<=3;rw [List.length_append,List.length_singleton];omega
  exact yg_ (m:=⟨_,id,0,0,0,false,0,FV.z,.of ps,.nil⟩) rfl ⟨rfl,⟨by show ps.length<=1000;omega,Nat.zero_le _⟩,by dsimp only;omega,by dsimp only;omega,FM.z F64.z⟩ hn
 refine wt_ (run_eql ..) rfl (v8_ rfl (λk2=>?_) (λk2=>?_))
 ·(refine m_ (p14 hp hn (m:=2) (by decide) (by decide)) rfl (C_ hA) ⟨?_,trivial⟩;rintro ws ⟨v,n,rfl,hv,hn⟩)
  refine wt_ (R_ (by omega) (by omega)) rfl ?_;refine vA_ (ι:=Nat×List (List UInt8)×List FV×Nat) (λx=>[.int .i64 (x.1:Int),bb_ u8_ 1 x.2.1,bb_ u_ 3 x.2.2.1,.int .i64 (x.2.2.2:Int)]) (λx=>x.1+x.2.1.length<=2/\x.1+x.2.2.1.length<=2/\x.2.2.2<=l.length/\∀v∈x.2.2.1,F64 v) (λx=>x.1) (v+1,[],[],n) ⟨by show v+1+0<=2;omega,by show v+1+0<=2;omega,hn,λv h=>by cases h⟩ rfl (λ_ _=>by simp only [okL,okC,u3_ okP,u3_ okV]) (λx y _ _ h=>?_) (λx hx=>?_)
  .have h:=(List.cons.inj h).1;injection h with _ h
   omega
  obtain ⟨i,ps,vs,n⟩:=x;obtain ⟨hi,hi2,hn,hvs⟩:=hx;simp only at hi hi2 hn hvs⊢;refine wt_ (run_gtr ..) rfl (v8_ rfl (λhc=>?_) (λhc=>?_))
  .have hc:(0:Int)<(i:Int):=dT hc
   (refine m_ (p14 hp hn (m:=6) (by decide) (by decide)) rfl (C_ hA) ⟨?_,trivial⟩;rintro ws ⟨v,n,rfl,hv,hn⟩)
   have hv6:=hv;refine wt_ (iaP PW hv) (lm_ okP _) (wt_ (ldP hv) rfl (wt_ (uZ_ zZ_ (by decide) (by decide) ps _ (by omega)) (u3_ okP _) ?_))
   (refine m_ (p14 hp hn (m:=4) (by decide) (by decide)) rfl (C_ hA) ⟨?_,trivial⟩;rintro ws ⟨v,n,rfl,hv,hn⟩)
   have again:∀(w:FV) (n:Nat),F64 w->n<=l.length->∀p:List UInt8,∃i':Nat×List (List UInt8)×List FV×Nat,(i'.1+i'.2.1.length<=2/\i'.1+i'.2.2.1.length<=2/\i'.2.2.2<=l.length/\∀v∈i'.2.2.1,F64 v)/\[AV.int .i64 ((i-1:Nat):Int),bb_ u8_ 1 (ps++[p]),bb_ u_ 3 (vs++[w]),.int .i64 (n:Int)]=[AV.int .i64 (i'.1:Int),bb_ u8_ 1 i'.2.1,bb_ u_ 3 i'.2.2.1,.int .i64 (i'.2.2.2:Int)]/\i'.1<i:=λw n hw hn p=>⟨(i-1,ps++[p],vs++[w],n),⟨by simp only [List.length_append,List.length_singleton];omega,by simp only [List.length_append,List.length_singleton];omega,hn,λv hv=>by
    rcases List.mem_append.1 hv with h|h;exact hvs v h
    .rw [List.mem_singleton.1 h];exact hw⟩,rfl,by show i-1<i;omega⟩
   refine wt_ (run_eql ..) rfl (v8_ rfl (λ_=>?_) (λ_=>?_));refine m_ (p32 hp hn (.inr (.inr rfl))) rfl (C_ hA) ⟨?_,trivial⟩;rintro ws ⟨w,n,rfl,hn,hw⟩;exact wt_ (uZ_ zh_ (by decide) (by decide) vs w (by omega)) (u3_ okV _) (wt_ (x3_ (z:=((i-1:Nat):Int)) (by omega) (by omega) (by omega)) rfl (vm_ rfl (again w n hw hn _)));exact wt_ (uZ_ zh_ (by decide) (by decide) vs ⟨2,v,some 0⟩ (by omega)) (u3_ okV _) (wt_ (x3_ (z:=((i-1:Nat):Int)) (by omega) (by omega) (by omega)) rfl (vm_ rfl (again ⟨2,v,some 0⟩ n F64.z hn _)))
  exact yg_ (m:=⟨_,id,0,0,0,false,0,FV.z,.of ps,.of vs⟩) rfl ⟨rfl,⟨by show ps.length<=1000;omega,by show vs.length<=1000;omega⟩,by dsimp only;omega,by dsimp only;omega,⟨F64.z,hvs⟩⟩ hn
 refine wt_ (run_eql ..) rfl (v8_ rfl (λk3=>?_) (λk3=>?_))
 ·(refine m_ (p14 hp hn (m:=12) (by decide) (by decide)) rfl (C_ hA) ⟨?_,trivial⟩;rintro ws ⟨v,n,rfl,hv,hn⟩)
  exact yg_ (m:=⟨_,id,0,_,0,false,0,FV.z,.nil,.nil⟩) rfl ⟨rfl,⟨Nat.zero_le _,Nat.zero_le _⟩,by dsimp only;omega,by dsimp only;omega,FM.z F64.z⟩ hn
 refine wt_ (run_eql ..) rfl (v8_ rfl (λk4=>?_) (λk4=>?_))
 ·(refine m_ (p14 hp hn (m:=9) (by decide) (by decide)) rfl (C_ hA) ⟨?_,trivial⟩;rintro ws ⟨v,n,rfl,hv,hn⟩)
  repeat' (first
            |refine s_ ?_ ?_
            |refine wt_ (iaP PT (by show _<10;omega)) (lm_ okP _) ?_
            |refine wt_ (ldP (by show _<10;omega)) rfl ?_
            |refine wt_ (run_mul ..) rfl ?_
            |(refine m_ (p14 hp hn (m:=4) (by decide) (by decide)) rfl (C_ hA) ⟨?_,trivial⟩;rintro ws ⟨v,n,rfl,hv,hn⟩)
            |(refine m_ (p14 hp hn (m:=2) (by decide) (by decide)) rfl (C_ hA) ⟨?_,trivial⟩;rintro ws ⟨v,n,rfl,hv,hn⟩)
            |refine wt_ (run_eql ..) rfl (v8_ rfl (λ_=>?_) (λ_=>?_))
            |(refine m_ (p32 hp hn (.inr (.inl rfl))) rfl (C_ hA) ⟨?_,trivial⟩;rintro ws ⟨w,n,rfl,hn,hw⟩;exact yg_ (m:=⟨_,id,0,_,0,false,_,w,.v [_],.nil⟩) rfl ⟨rfl,sm1 _ _ _ _ _ _ _ _ _,by dsimp only;omega,by dsimp only;omega,FM.z hw⟩ hn)
            |exact yg_ (m:=⟨_,id,0,_,0,false,_,FV.z,.v [_],.nil⟩) rfl ⟨rfl,sm1 _ _ _ _ _ _ _ _ _,by dsimp only;omega,by dsimp only;omega,FM.z F64.z⟩ hn)
 ·(refine m_ (p14 hp hn (m:=4) (by decide) (by decide)) rfl (C_ hA) ⟨?_,trivial⟩;rintro ws ⟨v,n,rfl,hv,hn⟩)
  exact yg_ (m:=⟨_,id,0,_,0,false,0,FV.z,.nil,.nil⟩) rfl ⟨rfl,⟨Nat.zero_le _,Nat.zero_le _⟩,by dsimp only;omega,by dsimp only;omega,FM.z F64.z⟩ hn
theorem cEq {a b:Nat} (h:decide ((a:Int)=(b:Int))=true):a=b:=by have:=of_decide_eq_true h;omega
theorem cNe {a b:Nat} (h:decide ((a:Int)=(b:Int))=false):a≠b:=by have:=of_decide_eq_false h;omega
def ft18:FT:=⟨1,⟨[(0,.ptr 0 0)],[rd (.slx 0 0 0) (.slx 1 0 0)],1,2,[],[],[]⟩,[(false,⟨[(0,.tup [.agg (hs 0 7),.slx 7 0 0])],[rd (.slx 8 0 0) (.slx 9 0 0)],1,10,[],[],[]⟩)]⟩
def xw_:FT:=ftNum
def xx_:FT:=ftNum
def ft21:FT:=⟨1,⟨[(0,.ptr 0 0),(1,.slx 2 0 0)],[rd (.slx 0 0 0) (.slx 1 0 0)],1,3,[],[],[]⟩,[(false,⟨[(0,.agg (hs 0 3))],[rd (.slx 3 0 0) (.slx 4 0 0)],1,5,[],[],[]⟩)]⟩
def T_ (v:PV):List AV:=[.int .i64 (v.k:Int),.int .i64 v.i,.flt .f64 v.f]
def PV.g (v:PV):FV:=⟨(v.k:Int),v.i,some v.f⟩
theorem zl_ (v:PV):okL (T_ v)=true:=okV v.g
def wW_ (n:Nat):Int:=if nan n=true then 9221120237041090561 else (n:Int)
theorem xr_ (n:Nat):z_ (some n)=wW_ n:=by unfold z_ wW_;by_cases h:nan n=true;rw [show n_ (some n)=9221120237041090561 from if_pos h,if_pos h];rfl;rw [show n_ (some n)=n from if_neg h,if_neg h]
def yl_ (v:PV):Bool:=if v.k=5 then decide (v.i=0)else if v.k=1 then decide (v.i=0\/v.i=1)else if v.k=2 then decide (v.i=w16 v.i)else if v.k=3 then decide (v.i=w32 v.i)else decide (v.k=4)
def VvP (v:PV):Prop:=(v.k=1/\v.f=0/\(v.i=0\/v.i=1))\/(v.k=2/\v.f=0/\w16 v.i=v.i)\/(v.k=3/\v.f=0/\w32 v.i=v.i)\/(v.k=4/\v.f=0)\/(v.k=5/\v.i=0)
theorem VvP.g {v:PV} (h:VvP v):Vv v.g:=by
 obtain ⟨k,i,f⟩:=v;rcases h with ⟨h1,h2,h3⟩|⟨h1,h2,h3⟩|⟨h1,h2,h3⟩|⟨h1,h2⟩|⟨h1,h2⟩<;>simp only at h1 h2<;>subst h1 h2
 exact .inl ⟨rfl,rfl,h3⟩;exact .inr (.inl ⟨rfl,rfl,h3⟩);exact .inr (.inr (.inl ⟨rfl,rfl,h3⟩));exact .inr (.inr (.inr (.inl ⟨rfl,rfl⟩)));exact .inr (.inr (.inr (.inr ⟨rfl,rfl⟩)))
theorem yK_ (v:PV) (h:v.k≠5->v.f=0):P_ v.g=yl_ v:=by
 obtain ⟨k,i,f⟩:=v;have e5:((k:Int)=5)=(k=5):=by apply propext;omega
 have e1:((k:Int)=1)=(k=1):=by apply propext;omega
 have e2:((k:Int)=2)=(k=2):=by apply propext;omega
 have e3:((k:Int)=3)=(k=3):=by apply propext;omega
 have e4:((k:Int)=4)=(k=4):=by apply propext;omega
 have h:k≠5->f=0:=h;unfold P_ yl_ PV.g;simp only [e5,e1,e2,e3,e4];by_cases h5:k=5;rw [if_pos h5,if_pos h5];rw [if_neg h5,if_neg h5,if_pos (by rw [h h5];decide)]
theorem b7_ (v:PV) (h:v.k≠5->v.f=0):iu_ Tryz.prog 62 [.agg [.int .i64 (v.k:Int),.int .i64 v.i,.flt .f64 v.f]] (.bool (yl_ v)):=by
 rw [←yK_ v h];exact p62 v.g (λh5 n hn=>by
  have h5:¬(v.k:Int)=5:=h5;have:some v.f=some n:=hn;injection this with this
  rw [←this,h (by omega)];decide)
theorem xS_ (v:PV):w_ (cP v.g)=w_ v:=by
 show w_ ⟨((v.k:Int)).toNat,v.i,n_ (some v.f)⟩=w_ v;rw [am_,am_,Int.toNat_natCast]
 congr 2
 show (if v.k=5 then (if nan (n_ (some v.f))then 9221120237041090561 else (n_ (some v.f):Int))else v.i)=(if v.k=5 then (if nan v.f then 9221120237041090561 else (v.f:Int))else v.i);split;rw [xz_,xr_];rfl;rfl
theorem yO_ {v:PV} (h:VvP v):iu_ Tryz.prog 24 [.agg [.int .i64 (v.k:Int),.int .i64 v.i,.flt .f64 v.f]] (bb_ a_ 1 (w_ v)):=by have:=p24 h.g;rw [xS_]at this;exact this
def c37:VC:=⟨⟨[],[]⟩,[(61,[none]),(62,[none]),(24,[none]),(41,[none])],[],1,true,[(34,v1_)]⟩
def t37:VT:=Cf 34 v1_ [64,65,J 1] 66 3<|Iq 69 1 72 (Cf 34 v1_ [70,71,J 1] 73 3<|.call 62 [.agg [69,76,.flt .f64 0]] 79 [none]<|It Qa [79] 80 (Dn [69,76,.flt .f64 0,.nsl,.bool true])<|.ite 78 (Dn [69,76,.flt .f64 0,.nsl,.bool true])<|.call 24 [.agg [69,76,.flt .f64 0]] 81 [none]<|Li Qc [64] 82<|Li Qc [77] 83<|Li Z1 [82,83] 84<|Li Qw [64,84] 85<|.call 41 [81,85] 86 [none]<|It Qa [86] 87 (Dn [69,76,.flt .f64 0,.nsl,.bool true])<|Dn [69,76,.flt .f64 0,77,78])<|Iq 69 2 73 (Cf 34 v1_ [70,71,J 2] 74 3<|Li Zk [77] 80<|Li Zl [80] 81<|.call 62 [.agg [69,81,.flt .f64 0]] 82 [none]<|It Qa [82] 83 (Dn [69,81,.flt .f64 0,.nsl,.bool true])<|.ite 79 (Dn [69,81,.flt .f64 0,.nsl,.bool true])<|.call 24 [.agg [69,81,.flt .f64 0]] 84 [none]<|Li Qc [64] 85<|Li Qc [78] 86<|Li Z1 [85,86] 87<|Li Qw [64,87] 88<|.call 41 [84,88] 89 [none]<|It Qa [89] 90 (Dn [69,81,.flt .f64 0,.nsl,.bool true])<|Dn [69,81,.flt .f64 0,78,79])<|Iq 69 3 74 (Cf 34 v1_ [70,71,J 4] 75 3<|Li Zm [78] 81<|Li Zn [81] 82<|.call 62 [.agg [69,82,.flt .f64 0]] 83 [none]<|It Qa [83] 84 (Dn [69,82,.flt .f64 0,.nsl,.bool true])<|.ite 80 (Dn [69,82,.flt .f64 0,.nsl,.bool true])<|.call 24 [.agg [69,82,.flt .f64 0]] 85 [none]<|Li Qc [64] 86<|Li Qc [79] 87<|Li Z1 [86,87] 88<|Li Qw [64,88] 89<|.call 41 [85,89] 90 [none]<|It Qa [90] 91 (Dn [69,82,.flt .f64 0,.nsl,.bool true])<|Dn [69,82,.flt .f64 0,79,80])<|Iq 69 4 75 (Cf 34 v1_ [70,71,J 8] 76 3<|.call 62 [.agg [69,79,.flt .f64 0]] 82 [none]<|It Qa [82] 83 (Dn [69,79,.flt .f64 0,.nsl,.bool true])<|.ite 81 (Dn [69,79,.flt .f64 0,.nsl,.bool true])<|.call 24 [.agg [69,79,.flt .f64 0]] 84 [none]<|Li Qc [64] 85<|Li Qc [80] 86<|Li Z1 [85,86] 87<|Li Qw [64,87] 88<|.call 41 [84,88] 89 [none]<|It Qa [89] 90 (Dn [69,79,.flt .f64 0,.nsl,.bool true])<|Dn [69,79,.flt .f64 0,80,81])<|Iq 69 5 76 (Cf 34 v1_ [70,71,J 8] 77 3<|Li Qr [80] 83<|.call 61 [83] 84 [none]<|.call 62 [.agg [69,J 0,84]] 85 [none]<|It Qa [85] 86 (Dn [69,J 0,84,.nsl,.bool true])<|.ite 82 (Dn [69,J 0,84,.nsl,.bool true])<|.call 24 [.agg [69,J 0,84]] 87 [none]<|Li Qc [64] 88<|Li Qc [81] 89<|Li Z1 [88,89] 90<|Li Qw [64,90] 91<|.call 41 [87,91] 92 [none]<|It Qa [92] 93 (Dn [69,J 0,84,.nsl,.bool true])<|Dn [69,J 0,84,81,82])<|.call 62 [.agg [69,J 0,.flt .f64 0]] 77 [none]<|It Qa [77] 78 (Dn [69,J 0,.flt .f64 0,.nsl,.bool true])<|.ite 71 (Dn [69,J 0,.flt .f64 0,.nsl,.bool true])<|.call 24 [.agg [69,J 0,.flt .f64 0]] 79 [none]<|Li Qc [64] 80<|Li Qc [70] 81<|Li Z1 [80,81] 82<|Li Qw [64,82] 83<|.call 41 [79,83] 84 [none]<|It Qa [84] 85 (Dn [69,J 0,.flt .f64 0,.nsl,.bool true])<|Dn [69,J 0,.flt .f64 0,70,71]
def R31 (l:List UInt8) (bad:Bool):Nat->List AV->Prop:=λ_ ws=>∃(k:Nat) (i:Int) (f:Nat) (y:AV) (b:Bool),ws=[.int .i64 (k:Int),.int .i64 i,.flt .f64 f,y,.bool b]/\(match (if bad=true then none else G_ l)with
 |some (v,r)=>b=false/\v=⟨k,i,f⟩/\y=jW_ a_ 1 r
 |none=>b=true/\y=.nsl)
theorem R31.no {l:List UInt8} {bad:Bool} (h:bad=true\/G_ l=none) (k:Nat) (i:Int) (f:Nat):R31 l bad 0 [.int .i64 (k:Int),.int .i64 i,.flt .f64 f,.nsl,.bool true]:=by
 refine ⟨k,i,f,.nsl,true,rfl,?_⟩;have e:(if bad=true then none else G_ l)=none:=by split;rfl;exact h.resolve_left ‹_›
 rw [e];exact ⟨rfl,rfl⟩
theorem R31.yes {l r:List UInt8} {v:PV} {y:AV} (h:G_ l=some (v,r)) (hy:y=jW_ a_ 1 r):R31 l false 0 [.int .i64 (v.k:Int),.int .i64 v.i,.flt .f64 v.f,y,.bool false]:=by refine ⟨v.k,v.i,v.f,y,false,rfl,?_⟩;rw [show (if false=true then none else G_ l)=some (v,r) from h];exact ⟨rfl,rfl,hy⟩
theorem O_ {l:List UInt8} (h:l.length<=7):H_ l=(r_ 0 l:Int):=by
 have h1:=F_ l;have h2:256^l.length<=256^7:=Nat.pow_le_pow_right (by decide) h;have h3:(256:Nat)^7=72057594037927936:=by decide
 exact wK_ (by omega) (by omega)
theorem po_ (c:UInt8):r_ 0 [c]=c.toNat:=by simp [r_]
theorem ok5 {k i f:AV} {y:AV} {b:Bool} (h0:okC k=true) (h1:okC i=true) (h2:okC f=true) (h:okC y=true):okL [k,i,f,y,.bool b]=true:=by simp only [okL,h0,h1,h2,h,okC]
theorem wN_ {l r:List UInt8} {c:UInt8} {x:AV} (hl:l=c::r) {w:Nat} {y:AV} (hx:By l x) (hy:By (r.drop w) y) (hw:w<=r.length) (hlen:l.length<=10000) {v:PV} (hv:VvP v):∃p q m,(XOp.bin .sub 3 false false).run Tryz.prog [.int .i64 (l.length:Int),.int .i64 ((r.drop w).length:Int)]=some p/\okC p=true/\
  (XOp.slc 22 false true).run Tryz.prog [x,p]=some q/\okC q=true/\iu_ Tryz.prog 41 [bb_ a_ 1 (w_ v),q] (.bool m)/\m=decide (w_ v=c::r.take w):=by
 have e:l.length=1+r.length:=by rw [hl];simp;omega
 have e2:(r.drop w).length=r.length-w:=List.length_drop;obtain ⟨q,h1,h2⟩:=AS_ hx (n:=1+w) (by omega);have e3:l.take (1+w)=c::r.take w:=by rw [hl,Nat.add_comm];rfl
 rw [e3]at h2;have hvl:(w_ v).length<=1000000:=by have:=nK_ v.k;rw [am_,List.length_cons,b_];omega
 refine ⟨.int .i64 ((1+w:Nat):Int),q,_,?_,rfl,h1,h2.ok c_,p41 (SlV.of _) h2 hvl,rfl⟩;refine (run_sub ..).trans ?_;rw [wK_ (by omega) (by omega)]
 congr 2
 omega
theorem qs_ {c:UInt8} {r:List UInt8} {k w:Nat} (hk:c.toNat=k) (hw:t_ k=w) (hle:w<=r.length):G_ (c::r)=if okN k (r_ 0 (r.take w))=true then some (xj_ k (r_ 0 (r.take w)),r.drop w)else none:=by rw [N_,hk,hw];by_cases h:okN k (r_ 0 (r.take w))=true;rw [if_pos ⟨hle,h⟩,if_pos h];rw [if_neg (λe=>h e.2),if_neg h]
theorem J_ {c:UInt8} {r:List UInt8} {k w:Nat} (hk:c.toNat=k) (hw:t_ k=w) (h:r.length<w):G_ (c::r)=none:=by rw [N_,hk,hw];exact if_neg λe=>by omega
theorem X_ {c:UInt8} {r:List UInt8} {v:PV} {w:Nat} (h:G_ (c::r)=some (v,r.drop w)):w_ v=c::r.take w:=by
 have h1:=(x6_ h).2;have h2:c::r=(c::r.take w)++r.drop w:=by rw [List.cons_append,List.take_append_drop]
 exact (List.append_cancel_right (h2.symm.trans h1)).symm
theorem zC_ {u:Nat} (h:u<65536):w16 (u:Int)=L_ u 32768/\w16 (L_ u 32768)=L_ u 32768:=by
 have e:IntKind.i16.wrap (u:Int)=L_ u 32768:=by unfold L_;simp [IntKind.wrap,IntKind.bits,IntKind.signed];split<;>split<;>omega
 have hb: -32768<=L_ u 32768/\L_ u 32768<=32767:=by unfold L_;split<;>omega
 refine ⟨?_,y4_ hb.1 hb.2⟩;unfold w16;rw [e,wK_ (by omega) (by omega)]
theorem zD_ {u:Nat} (h:u<4294967296):w32 (u:Int)=L_ u 2147483648/\w32 (L_ u 2147483648)=L_ u 2147483648:=by
 have e:IntKind.i32.wrap (u:Int)=L_ u 2147483648:=by unfold L_;simp [IntKind.wrap,IntKind.bits,IntKind.signed];split<;>split<;>omega
 have hb: -2147483648<=L_ u 2147483648/\L_ u 2147483648<=2147483647:=by unfold L_;split<;>omega
 refine ⟨?_,y5_ hb.1 hb.2⟩;unfold w32;rw [e,wK_ (by omega) (by omega)]
theorem zE_ {u:Nat} (h:u<18446744073709551616):IntKind.i64.wrap (u:Int)=L_ u 9223372036854775808:=by unfold L_;simp [IntKind.wrap,IntKind.bits,IntKind.signed];split<;>split<;>omega
theorem zx_ {u:Nat} (h:u<18446744073709551616):IntKind.u64.wrap (IntKind.i64.wrap (u:Int))=(u:Int):=by simp [IntKind.wrap,IntKind.bits,IntKind.signed];split<;>omega
theorem p37 {l:List UInt8} {x:AV} (h:By l x) (bad:Bool) (hx:bad=false->x=jW_ a_ 1 l) (hl:l.length<=10000):CF Tryz.prog 37 zT_ [x,.bool bad] (R31 l bad):=by
 refine wb_ (c:=c37) (n:=300) (t:=t37) mo ov rfl (λY _=>wB_ _) (by kernel_rfl) λY hf hg=>?_;unfold t37;refine vn_ (p34 h bad hx (n:=1) (by decide)) (by show okL [x,.bool bad,.int .i64 1]=true;simp only [okL,h.ok c_,okC]) ⟨?_,trivial⟩;rintro ws ⟨k0,y,b,rfl,hR⟩;by_cases hc:bad=true\/l.length<1
 .rw [if_pos hc]at hR;obtain ⟨rfl,rfl,rfl⟩:=hR;have hn:bad=true\/G_ l=none:=hc.imp id λh=>by have:l=[]:=List.length_eq_zero_iff.1 (by omega);rw [this];rfl
  refine wt_ (run_eql ..) rfl (v8_ (t:=false) rfl (λh=>by cases h) (λ_=>wt_ (run_eql ..) rfl (v8_ (t:=false) rfl (λh=>by cases h) (λ_=>wt_ (run_eql ..) rfl (v8_ (t:=false) rfl (λh=>by cases h) (λ_=>wt_ (run_eql ..) rfl (v8_ (t:=false) rfl (λh=>by cases h) (λ_=>wt_ (run_eql ..) rfl (v8_ (t:=false) rfl (λh=>by cases h) (λ_=>?_))))))))));exact vy_ (b7_ ⟨0,0,0⟩ (λ_=>rfl)) rfl rfl (wt_ (wl_ ..) rfl (v8_ (t:=true) rfl (λ_=>VOK_fin rfl (R31.no hn 0 0 0)) (λh=>by cases h)))
 rw [if_neg hc]at hR;obtain ⟨rfl,rfl,hyv⟩:=hR;have hbad:bad=false:=by
  cases bad with
  |false=>rfl
  |true=>exact absurd (.inl rfl) hc
 subst hbad;obtain ⟨c,r,rfl⟩:∃c r,l=c::r:=by
  cases l with
  |nil=>exact absurd (.inr (by decide)) hc
  |cons c r=>exact ⟨c,r,rfl⟩
 have hr1:r.length+1<=10000:=by simpa using hl
 have hk0:H_ ((c::r).take 1)=(c.toNat:Int):=by show H_ [c]=_;rw [O_ (by show 1<=7;decide),po_]
 have hyv:y=jW_ a_ 1 r:=hyv;have hy:By r y:=.inl hyv;rw [hk0];refine wt_ (run_eql ..) rfl (v8_ rfl (λhk=>?_) (λhk1=>?_))
 .have hk:c.toNat=1:=cEq (b:=1) hk;rw [hk];refine vn_ (p34 hy false (λ_=>hyv) (n:=1) (by decide)) (by show okL [y,.bool false,.int .i64 1]=true;simp only [okL,hy.ok c_,okC]) ⟨?_,trivial⟩;rintro ws ⟨u0,y2,b2,rfl,hR2⟩;by_cases hc2:false=true\/r.length<1;rw [if_pos hc2]at hR2;obtain ⟨rfl,rfl,rfl⟩:=hR2;have hn:false=true\/G_ (c::r)=none:=.inr (J_ hk rfl (hc2.resolve_left (by decide)));exact vy_ (b7_ ⟨1,0,0⟩ (λ_=>rfl)) rfl rfl (wt_ (wl_ ..) rfl (v8_ (t:=false) rfl (λh=>by cases h) (λ_=>v8_ (t:=true) rfl (λ_=>VOK_fin rfl (R31.no hn 1 0 0)) (λh=>by cases h))));rw [if_neg hc2]at hR2;obtain ⟨rfl,rfl,hyv2⟩:=hR2;have hy2:By (r.drop 1) y2:=.inl hyv2;have hle:1<=r.length:=(by have:=λe=>hc2 (.inr e);omega);have htl:(r.take 1).length=1:=(by rw [List.length_take];omega);have hlt:=F_ (r.take 1);rw [htl]at hlt;have hvd:=qs_ (k:=1) (w:=1) hk rfl hle;generalize hu:r_ 0 (r.take 1)=u at hlt hvd;have hnum:H_ (r.take 1)=IntKind.i64.wrap (u:Int):=(by unfold H_;rw [hu]);rw [hnum];have hi:IntKind.i64.wrap (u:Int)=(u:Int):=wK_ (by omega) (by omega);rw [hi];refine vy_ (b7_ ⟨1,(u:Int),0⟩ (λ_=>rfl)) rfl rfl (wt_ (wl_ ..) rfl (v8_ rfl (λhm=>?_) (λhm=>v8_ (t:=false) rfl (λh=>by cases h) (λ_=>?_))))
  .have hm:(!decide ((u:Int)=0\/(u:Int)=1))=true:=hm;have hm:¬((u:Int)=0\/(u:Int)=1):=λe=>(by rw [decide_eq_true e]at hm;cases hm);refine VOK_fin rfl (R31.no (.inr ?_) 1 u 0);rw [hvd];exact if_neg λe=>by have:u<=1:=of_decide_eq_true e;omega
  have hm:(!decide ((u:Int)=0\/(u:Int)=1))=false:=hm;have hm:(u:Int)=0\/(u:Int)=1:=(by by_cases e:(u:Int)=0\/(u:Int)=1;exact e;rw [decide_eq_false e]at hm;cases hm);rw [if_pos (show okN 1 u=true from decide_eq_true (by omega))]at hvd;have hV:VvP ⟨1,(u:Int),0⟩:=.inl ⟨rfl,rfl,hm⟩;obtain ⟨p,q,m,e1,o1,e2,o2,e3,hm3⟩:=wN_ rfl h hy2 hle hl hV;refine vy_ (yO_ hV) rfl (by show okL [bb_ a_ 1 _]=true;simp only [okL,u3_ c_]) (wt_ (l_ h) rfl (wt_ (l_ hy2) rfl (wt_ e1 o1 (wt_ e2 o2 (vy_ e3 rfl rfl (wt_ (wl_ ..) rfl (v8_ rfl (λhq=>?_) (λhq=>?_))))))));have:m=true:=hm3.trans (decide_eq_true (X_ hvd));rw [this]at hq;cases hq;exact VOK_fin (ok5 rfl rfl rfl (hy2.ok c_)) (R31.yes hvd hyv2)
 refine wt_ (run_eql ..) rfl (v8_ rfl (λhk=>?_) (λhk2=>?_));have hk:c.toNat=2:=cEq (b:=2) hk;rw [hk];refine vn_ (p34 hy false (λ_=>hyv) (n:=2) (by decide)) (by show okL [y,.bool false,.int .i64 2]=true;simp only [okL,hy.ok c_,okC]) ⟨?_,trivial⟩;rintro ws ⟨u0,y2,b2,rfl,hR2⟩;by_cases hc2:false=true\/r.length<2;rw [if_pos hc2]at hR2;obtain ⟨rfl,rfl,rfl⟩:=hR2;have hn:false=true\/G_ (c::r)=none:=.inr (J_ hk rfl (hc2.resolve_left (by decide)));exact wt_ (ur_ Tryz.underlying2 Tryz.underlying128 _) rfl (wt_ (ur_ Tryz.underlying128 Tryz.underlying2 _) rfl (vy_ (b7_ ⟨2,0,0⟩ (λ_=>rfl)) rfl rfl (wt_ (wl_ ..) rfl (v8_ (t:=false) rfl (λh=>by cases h) (λ_=>v8_ (t:=true) rfl (λ_=>VOK_fin rfl (R31.no hn 2 0 0)) (λh=>by cases h))))));rw [if_neg hc2]at hR2;obtain ⟨rfl,rfl,hyv2⟩:=hR2;have hy2:By (r.drop 2) y2:=.inl hyv2;have hle:2<=r.length:=(by have:=λe=>hc2 (.inr e);omega);have htl:(r.take 2).length=2:=(by rw [List.length_take];omega);have hlt:=F_ (r.take 2);rw [htl]at hlt;have hvd:=qs_ (k:=2) (w:=2) hk rfl hle;generalize hu:r_ 0 (r.take 2)=u at hlt hvd;have hnum:H_ (r.take 2)=IntKind.i64.wrap (u:Int):=(by unfold H_;rw [hu]);rw [hnum];obtain ⟨hi,hi2⟩:=zC_ (u:=u) (by omega);have hi0:IntKind.i64.wrap (u:Int)=(u:Int):=wK_ (by omega) (by omega);rw [hi0];rw [if_pos (show okN 2 u=true from rfl)]at hvd;have hV:VvP ⟨2,L_ u 32768,0⟩:=.inr (.inl ⟨rfl,rfl,hi2⟩);have hM:yl_ ⟨2,L_ u 32768,0⟩=true:=decide_eq_true hi2.symm;have hp:=b7_ ⟨2,L_ u 32768,0⟩ (λ_=>rfl);rw [hM]at hp;refine wt_ (ur_ Tryz.underlying2 Tryz.underlying128 _) rfl (wt_ (r:=.int .i64 (L_ u 32768)) ((ur_ Tryz.underlying128 Tryz.underlying2 _).trans (congrArg (λi=>some (AV.int .i64 i)) hi)) rfl (vy_ hp rfl rfl (wt_ (wl_ ..) rfl (v8_ (t:=false) rfl (λh=>by cases h) (λ_=>v8_ (t:=false) rfl (λh=>by cases h) (λ_=>?_))))));obtain ⟨p,q,m,e1,o1,e2,o2,e3,hm3⟩:=wN_ rfl h hy2 hle hl hV;refine vy_ (yO_ hV) rfl (by show okL [bb_ a_ 1 _]=true;simp only [okL,u3_ c_]) (wt_ (l_ h) rfl (wt_ (l_ hy2) rfl (wt_ e1 o1 (wt_ e2 o2 (vy_ e3 rfl rfl (wt_ (wl_ ..) rfl (v8_ rfl (λhq=>?_) (λhq=>?_))))))));have:m=true:=hm3.trans (decide_eq_true (X_ hvd));rw [this]at hq;cases hq;exact VOK_fin (ok5 rfl rfl rfl (hy2.ok c_)) (R31.yes hvd hyv2);refine wt_ (run_eql ..) rfl (v8_ rfl (λhk=>?_) (λhk3=>?_));have hk:c.toNat=3:=cEq (b:=3) hk;rw [hk];refine vn_ (p34 hy false (λ_=>hyv) (n:=4) (by decide)) (by show okL [y,.bool false,.int .i64 4]=true;simp only [okL,hy.ok c_,okC]) ⟨?_,trivial⟩;rintro ws ⟨u0,y2,b2,rfl,hR2⟩;by_cases hc2:false=true\/r.length<4;rw [if_pos hc2]at hR2;obtain ⟨rfl,rfl,rfl⟩:=hR2;have hn:false=true\/G_ (c::r)=none:=.inr (J_ hk rfl (hc2.resolve_left (by decide)));exact wt_ (ur_ Tryz.underlying2 Tryz.underlying21 _) rfl (wt_ (ur_ Tryz.underlying21 Tryz.underlying2 _) rfl (vy_ (b7_ ⟨3,0,0⟩ (λ_=>rfl)) rfl rfl (wt_ (wl_ ..) rfl (v8_ (t:=false) rfl (λh=>by cases h) (λ_=>v8_ (t:=true) rfl (λ_=>VOK_fin rfl (R31.no hn 3 0 0)) (λh=>by cases h))))));rw [if_neg hc2]at hR2;obtain ⟨rfl,rfl,hyv2⟩:=hR2;have hy2:By (r.drop 4) y2:=.inl hyv2;have hle:4<=r.length:=(by have:=λe=>hc2 (.inr e);omega);have htl:(r.take 4).length=4:=(by rw [List.length_take];omega);have hlt:=F_ (r.take 4);rw [htl]at hlt;have hvd:=qs_ (k:=3) (w:=4) hk rfl hle;generalize hu:r_ 0 (r.take 4)=u at hlt hvd;have hnum:H_ (r.take 4)=IntKind.i64.wrap (u:Int):=(by unfold H_;rw [hu]);rw [hnum];obtain ⟨hi,hi2⟩:=zD_ (u:=u) (by omega);have hi0:IntKind.i64.wrap (u:Int)=(u:Int):=wK_ (by omega) (by omega);rw [hi0];rw [if_pos (show okN 3 u=true from rfl)]at hvd;have hV:VvP ⟨3,L_ u 2147483648,0⟩:=.inr (.inr (.inl ⟨rfl,rfl,hi2⟩));have hM:yl_ ⟨3,L_ u 2147483648,0⟩=true:=decide_eq_true hi2.symm;have hp:=b7_ ⟨3,L_ u 2147483648,0⟩ (λ_=>rfl);rw [hM]at hp;refine wt_ (ur_ Tryz.underlying2 Tryz.underlying21 _) rfl (wt_ (r:=.int .i64 (L_ u 2147483648)) ((ur_ Tryz.underlying21 Tryz.underlying2 _).trans (congrArg (λi=>some (AV.int .i64 i)) hi)) rfl (vy_ hp rfl rfl (wt_ (wl_ ..) rfl (v8_ (t:=false) rfl (λh=>by cases h) (λ_=>v8_ (t:=false) rfl (λh=>by cases h) (λ_=>?_))))));obtain ⟨p,q,m,e1,o1,e2,o2,e3,hm3⟩:=wN_ rfl h hy2 hle hl hV;refine vy_ (yO_ hV) rfl (by show okL [bb_ a_ 1 _]=true;simp only [okL,u3_ c_]) (wt_ (l_ h) rfl (wt_ (l_ hy2) rfl (wt_ e1 o1 (wt_ e2 o2 (vy_ e3 rfl rfl (wt_ (wl_ ..) rfl (v8_ rfl (λhq=>?_) (λhq=>?_))))))));have:m=true:=hm3.trans (decide_eq_true (X_ hvd));rw [this]at hq;cases hq;exact VOK_fin (ok5 rfl rfl rfl (hy2.ok c_)) (R31.yes hvd hyv2);refine wt_ (run_eql ..) rfl (v8_ rfl (λhk=>?_) (λhk4=>?_));have hk:c.toNat=4:=cEq (b:=4) hk;rw [hk];refine vn_ (p34 hy false (λ_=>hyv) (n:=8) (by decide)) (by show okL [y,.bool false,.int .i64 8]=true;simp only [okL,hy.ok c_,okC]) ⟨?_,trivial⟩;rintro ws ⟨u0,y2,b2,rfl,hR2⟩;by_cases hc2:false=true\/r.length<8;rw [if_pos hc2]at hR2;obtain ⟨rfl,rfl,rfl⟩:=hR2;have hn:false=true\/G_ (c::r)=none:=.inr (J_ hk rfl (hc2.resolve_left (by decide)));exact vy_ (b7_ ⟨4,0,0⟩ (λ_=>rfl)) rfl rfl (wt_ (wl_ ..) rfl (v8_ (t:=false) rfl (λh=>by cases h) (λ_=>v8_ (t:=true) rfl (λ_=>VOK_fin rfl (R31.no hn 4 0 0)) (λh=>by cases h))));rw [if_neg hc2]at hR2;obtain ⟨rfl,rfl,hyv2⟩:=hR2;have hy2:By (r.drop 8) y2:=.inl hyv2;have hle:8<=r.length:=(by have:=λe=>hc2 (.inr e);omega);have htl:(r.take 8).length=8:=(by rw [List.length_take];omega);have hlt:=F_ (r.take 8);rw [htl]at hlt;have hvd:=qs_ (k:=4) (w:=8) hk rfl hle;generalize hu:r_ 0 (r.take 8)=u at hlt hvd;have hnum:H_ (r.take 8)=IntKind.i64.wrap (u:Int):=(by unfold H_;rw [hu]);rw [hnum];rw [zE_ (u:=u) (by omega)];rw [if_pos (show okN 4 u=true from rfl)]at hvd;have hV:VvP ⟨4,L_ u 9223372036854775808,0⟩:=.inr (.inr (.inr (.inl ⟨rfl,rfl⟩)));refine vy_ (b7_ ⟨4,L_ u 9223372036854775808,0⟩ (λ_=>rfl)) rfl rfl (wt_ (wl_ ..) rfl (v8_ (t:=false) rfl (λh=>by cases h) (λ_=>v8_ (t:=false) rfl (λh=>by cases h) (λ_=>?_))));obtain ⟨p,q,m,e1,o1,e2,o2,e3,hm3⟩:=wN_ rfl h hy2 hle hl hV;refine vy_ (yO_ hV) rfl (by show okL [bb_ a_ 1 _]=true;simp only [okL,u3_ c_]) (wt_ (l_ h) rfl (wt_ (l_ hy2) rfl (wt_ e1 o1 (wt_ e2 o2 (vy_ e3 rfl rfl (wt_ (wl_ ..) rfl (v8_ rfl (λhq=>?_) (λhq=>?_))))))));have:m=true:=hm3.trans (decide_eq_true (X_ hvd));rw [this]at hq;cases hq;exact VOK_fin (ok5 rfl rfl rfl (hy2.ok c_)) (R31.yes hvd hyv2);refine wt_ (run_eql ..) rfl (v8_ rfl (λhk=>?_) (λhk5=>?_))
 .have hk:c.toNat=5:=cEq (b:=5) hk;rw [hk];refine vn_ (p34 hy false (λ_=>hyv) (n:=8) (by decide)) (by show okL [y,.bool false,.int .i64 8]=true;simp only [okL,hy.ok c_,okC]) ⟨?_,trivial⟩;rintro ws ⟨u0,y2,b2,rfl,hR2⟩;by_cases hc2:false=true\/r.length<8;rw [if_pos hc2]at hR2;obtain ⟨rfl,rfl,rfl⟩:=hR2;have hn:false=true\/G_ (c::r)=none:=.inr (J_ hk rfl (hc2.resolve_left (by decide)));exact wt_ (ur_ Tryz.underlying2 Tryz.underlying74 _) rfl (vy_ (p61 0) rfl rfl (vy_ (b7_ ⟨5,0,0⟩ (λh=>absurd rfl h)) rfl rfl (wt_ (wl_ ..) rfl (v8_ (t:=false) rfl (λh=>by cases h) (λ_=>v8_ (t:=true) rfl (λ_=>VOK_fin rfl (R31.no hn 5 0 0)) (λh=>by cases h))))));rw [if_neg hc2]at hR2;obtain ⟨rfl,rfl,hyv2⟩:=hR2;have hy2:By (r.drop 8) y2:=.inl hyv2;have hle:8<=r.length:=(by have:=λe=>hc2 (.inr e);omega);have htl:(r.take 8).length=8:=(by rw [List.length_take];omega);have hlt:=F_ (r.take 8);rw [htl]at hlt;have hvd:=qs_ (k:=5) (w:=8) hk rfl hle;generalize hu:r_ 0 (r.take 8)=u at hlt hvd;have hnum:H_ (r.take 8)=IntKind.i64.wrap (u:Int):=(by unfold H_;rw [hu]);rw [hnum];have hV:VvP ⟨5,0,u⟩:=.inr (.inr (.inr (.inr ⟨rfl,rfl⟩)));refine wt_ (r:=.int .u64 (u:Int)) ((ur_ Tryz.underlying2 Tryz.underlying74 _).trans (congrArg (λi=>some (AV.int .u64 i)) (zx_ (by omega)))) rfl (vy_ (p61 u) rfl rfl (vy_ (b7_ ⟨5,0,u⟩ (λh=>absurd rfl h)) rfl rfl (wt_ (wl_ ..) rfl (v8_ (t:=false) rfl (λh=>by cases h) (λ_=>v8_ (t:=false) rfl (λh=>by cases h) (λ_=>?_))))));obtain ⟨p,q,m,e1,o1,e2,o2,e3,hm3⟩:=wN_ rfl h hy2 hle hl hV;refine vy_ (yO_ hV) rfl (by show okL [bb_ a_ 1 _]=true;simp only [okL,u3_ c_]) (wt_ (l_ h) rfl (wt_ (l_ hy2) rfl (wt_ e1 o1 (wt_ e2 o2 (vy_ e3 rfl rfl (wt_ (wl_ ..) rfl (v8_ rfl (λhq=>?_) (λhq=>?_))))))));have hq:(!m)=true:=hq;have hne:¬w_ ⟨5,0,u⟩=c::r.take 8:=(by intro e;rw [hm3,decide_eq_true e]at hq;cases hq);refine VOK_fin rfl (R31.no (.inr ?_) 5 0 u);by_cases hk5:okN 5 u=true;rw [if_pos hk5]at hvd;exact absurd (X_ hvd) hne;rw [hvd,if_neg hk5]
  .have hq:(!m)=false:=hq;have he:w_ ⟨5,0,u⟩=c::r.take 8:=(by by_cases e:w_ ⟨5,0,u⟩=c::r.take 8;exact e;rw [hm3,decide_eq_false e]at hq;cases hq);have hb:d_ (wW_ u) 8=r.take 8:=(List.cons.inj he).2;have hu2:(u:Int)=wW_ u%((256^8:Nat):Int):=(by rw [←Y_,hb,hu]);have hk5:okN 5 u=true:=by
    show (!nan u||decide (u=9221120237041090561))=true;cases hn:nan u with
    |false=>rfl
    |true=>unfold wW_ at hu2;rw [if_pos hn]at hu2;have:u=9221120237041090561:=(by omega);rw [decide_eq_true this];rfl
   rw [if_pos hk5]at hvd;exact VOK_fin (ok5 rfl rfl rfl (hy2.ok c_)) (R31.yes hvd hyv2)
 have hk1:=cNe (b:=1) hk1;have hk2:=cNe (b:=2) hk2;have hk3:=cNe (b:=3) hk3;have hk4:=cNe (b:=4) hk4;have hk5:=cNe (b:=5) hk5;have hM:yl_ ⟨c.toNat,0,0⟩=false:=by show (if c.toNat=5 then _ else if c.toNat=1 then _ else if c.toNat=2 then _ else if c.toNat=3 then _ else decide (c.toNat=4))=false;rw [if_neg hk5,if_neg hk1,if_neg hk2,if_neg hk3,decide_eq_false hk4]
 have hp:=b7_ ⟨c.toNat,0,0⟩ (λ_=>rfl);rw [hM]at hp;have hvd:G_ (c::r)=none:=by rw [N_];exact if_neg λe=>by rcases kinds e.2 with h|h|h|h|h<;>omega
 exact vy_ hp rfl rfl (wt_ (wl_ ..) rfl (v8_ (t:=true) rfl (λ_=>VOK_fin rfl (R31.no (.inr hvd) c.toNat 0 0)) (λh=>by cases h)))
def c18:VC:=⟨⟨[],[]⟩,[(35,[none])],[],1,true,[(34,v1_),(36,yy_),(37,zT_)]⟩
def t18:VT:=Cf 34 v1_ [64,65,J 1] 66 3<|Li (.bin .rem 3 false true) [69,J 9] 72<|Iq 72 0 73 (Dn [72,J 0,J 0,.nsl,J 0,J 0,.flt .f64 0,.bool false,70,71])<|Cf 34 v1_ [70,71,J 1] 74 3<|Iq 72 3 80 (Cf 34 v1_ [78,79,J 2] 81 3<|Cf 36 yy_ [85,86,84] 87 3<|.call 35 [90] 93 [none]<|Dn [72,77,J 0,93,J 0,J 0,.flt .f64 0,.bool true,91,92])<|Iq 72 6 81 (Cf 34 v1_ [78,79,J 4] 82 3<|Dn [72,77,85,.nsl,J 0,J 0,.flt .f64 0,.bool true,86,87])<|Iq 72 8 82 (Cf 37 zT_ [78,79] 83 5<|Dn [72,77,J 0,.nsl,85,86,87,.bool true,88,89])<|Dn [72,77,J 0,.nsl,J 0,J 0,.flt .f64 0,.bool true,78,79]
def bAV:Option (List UInt8)->AV
 |none=>.nsl
 |some l=>jW_ a_ 1 l
def h_ (s:PS):List AV:=[.int .i64 (s.k:Int),.int .i64 (s.a.toNat:Int),.int .i64 (s.n:Int),bAV s.b,.int .i64 (s.v.k:Int),.int .i64 s.v.i,.flt .f64 s.v.f]
theorem r1_ (s:PS):(h_ s).length=7:=rfl
theorem Cb_ (b:Option (List UInt8)):okC (bAV b)=true:=by
 cases b with
 |none=>rfl
 |some l=>exact sQ_ c_ l
theorem I_ (s:PS):okL (h_ s)=true:=by simp only [h_,okL,okC,Cb_]
def E_:List UInt8->Option (Option PS×List UInt8)
 |[]=>none
 |k::r=>if k.toNat%9=0 then some (none,r)else match r with
  |[]=>none
  |a::r=>match x_ (k.toNat%9) a r with
   |none=>none
   |some (s,r')=>some (some s,r')
theorem yu_ (k:UInt8) (r:List UInt8):k_ (k::r)=match E_ (k::r)with
  |none=>[]
  |some (none,r')=>k_ r'
  |some (some s,r')=>s::k_ r':=by
 by_cases hk:k.toNat%9=0;rw [w0_ hk];simp only [E_,hk,if_true]
 .cases r with
  |nil=>rw [xu_ hk];simp only [E_,hk,if_false]
  |cons a r=>
   rw [vG_ hk];simp only [E_,hk,if_false];cases x_ (k.toNat%9) a r with
   |none=>rfl
   |some p=>rfl
def R20 (l:List UInt8):Nat->List AV->Prop:=λ_ ws=>∃(cz0 cz1 cz2 cz3 cz4 cz5 cz6:AV) (o:Bool) (y:AV) (b:Bool),ws=[cz0,cz1,cz2,cz3,cz4,cz5,cz6,.bool o,y,.bool b]/\(match E_ l with
 |none=>b=true
 |some (none,r)=>o=false/\b=false/\y=jW_ a_ 1 r
 |some (some s,r)=>o=true/\b=false/\y=jW_ a_ 1 r/\[cz0,cz1,cz2,cz3,cz4,cz5,cz6]=h_ s)
theorem R20.no {l:List UInt8} (h:E_ l=none) (cz0 cz1 cz2 cz3 cz4 cz5 cz6:AV) (o:Bool) (y:AV):R20 l 0 [cz0,cz1,cz2,cz3,cz4,cz5,cz6,.bool o,y,.bool true]:=by refine ⟨cz0,cz1,cz2,cz3,cz4,cz5,cz6,o,y,true,rfl,?_⟩;rw [h]
theorem R20.yes {l r:List UInt8} {s:PS} (h:E_ l=some (some s,r)):R20 l 0 (h_ s++[.bool true,jW_ a_ 1 r,.bool false]):=by refine ⟨_,_,_,_,_,_,_,true,jW_ a_ 1 r,false,rfl,?_⟩;rw [h];exact ⟨rfl,rfl,rfl,rfl⟩
theorem v6_ {cz0 cz1 cz2 cz3 cz4 cz5 cz6 y:AV} {o b:Bool} (h:okL [cz0,cz1,cz2,cz3,cz4,cz5,cz6]=true) (hy:okC y=true):okL [cz0,cz1,cz2,cz3,cz4,cz5,cz6,.bool o,y,.bool b]=true:=by have e:[cz0,cz1,cz2,cz3,cz4,cz5,cz6,.bool o,y,.bool b]=[cz0,cz1,cz2,cz3,cz4,cz5,cz6]++[.bool o,y,.bool b]:=rfl;rw [e];exact lm_.okL_join h (by simp only [okL,okC,hy])
theorem ok7 {k a n:Int} {B:AV} {vk vi:Int} {f:Nat} (h:okC B=true):okL [.int .i64 k,.int .i64 a,.int .i64 n,B,.int .i64 vk,.int .i64 vi,.flt .f64 f]=true:=by simp only [okL,okC,h]
theorem Cl_ (c:UInt8):(XOp.bin .rem 3 false true).run Tryz.prog [.int .i64 (c.toNat:Int),.int .i64 9]=some (.int .i64 ((c.toNat%9:Nat):Int)):=by rw [vZ_ (by decide)];rfl
theorem yM_ {y:AV} (b:Bool) (n:Int) (h:okC y=true):okL [y,.bool b,.int .i64 n]=true:=by simp only [okL,h,okC]
theorem p18 {k:UInt8} {r:List UInt8} (hl:(k::r).length<=10000):CF Tryz.prog 18 ft18 [jW_ a_ 1 (k::r),.bool false] (R20 (k::r)):=by
 have hx:By (k::r) (jW_ a_ 1 (k::r)):=SlV.v _;refine wb_ (c:=c18) (n:=300) (t:=t18) mo ov rfl (λY _=>wB_ _) (by kernel_rfl) λY hf hg=>?_;unfold t18;refine vn_ (p34 hx false (λ_=>rfl) (n:=1) (by decide)) (yM_ false 1 (sQ_ c_ _)) ⟨?_,trivial⟩;rintro ws ⟨k0,y,b,rfl,hR⟩;rw [if_neg (λh=>h.elim (λh=>by cases h) (λh=>by simp at h))]at hR;obtain ⟨rfl,rfl,hy⟩:=hR;have hy:y=jW_ a_ 1 r:=hy;subst hy;have hk0:H_ ((k::r).take 1)=(k.toNat:Int):=by show H_ [k]=_;rw [O_ (by show 1<=7;decide),po_]
 rw [hk0];refine wt_ (Cl_ k) rfl (wt_ (run_eql ..) rfl (v8_ rfl (λhz=>?_) (λhz=>?_)));have hz:=cEq (b:=0) hz;refine VOK_fin (v6_ (ok7 rfl) (sQ_ c_ _)) ⟨_,_,_,_,_,_,_,_,_,_,rfl,?_⟩;rw [show E_ (k::r)=some (none,r) from if_pos hz];exact ⟨rfl,rfl,rfl⟩;have hz:=cNe (b:=0) hz;have hK:=Nat.mod_lt k.toNat (show 0<9 by decide);generalize hKd:k.toNat%9=K at hz hK;refine vn_ (p34 (SlV.v r) false (λ_=>rfl) (n:=1) (by decide)) (yM_ false 1 (sQ_ c_ _)) ⟨?_,trivial⟩;rintro ws ⟨a0,y2,b2,rfl,hR2⟩;cases r with
 |nil=>
  rw [if_pos (.inr (by decide))]at hR2;obtain ⟨rfl,rfl,rfl⟩:=hR2;have hn:E_ [k]=none:=by show (if k.toNat%9=0 then some (none,[])else none)=none;exact if_neg (by omega)
  have hnil:By [] AV.nsl:=.inr ⟨rfl,rfl⟩;refine wt_ (run_eql ..) rfl (v8_ rfl (λh3=>?_) (λh3=>wt_ (run_eql ..) rfl (v8_ rfl (λh6=>?_) (λh6=>wt_ (run_eql ..) rfl (v8_ rfl (λh8=>?_) (λh8=>VOK_fin (v6_ (ok7 rfl) rfl) (R20.no hn _ _ _ _ _ _ _ _ _)))))));refine vn_ (p34 hnil true (λh=>by cases h) (n:=2) (by decide)) rfl ⟨?_,trivial⟩;rintro ws ⟨v,y3,b3,rfl,hR3⟩;rw [if_pos (.inl rfl)]at hR3;obtain ⟨rfl,rfl,rfl⟩:=hR3;refine vn_ (p36 hnil true (λh=>by cases h) (n:=0) (by decide)) rfl ⟨?_,trivial⟩;rintro ws ⟨z,y4,b4,rfl,hR4⟩;rw [if_pos (.inl rfl)]at hR4;obtain ⟨rfl,rfl,rfl⟩:=hR4;exact vy_ (xZ_ (SlV.v _) (by decide)) rfl rfl (VOK_fin (v6_ (ok7 (sQ_ c_ _)) rfl) (R20.no hn _ _ _ _ _ _ _ _ _));refine vn_ (p34 hnil true (λh=>by cases h) (n:=4) (by decide)) rfl ⟨?_,trivial⟩;rintro ws ⟨v,y3,b3,rfl,hR3⟩;rw [if_pos (.inl rfl)]at hR3;obtain ⟨rfl,rfl,rfl⟩:=hR3;exact VOK_fin (v6_ (ok7 rfl) rfl) (R20.no hn _ _ _ _ _ _ _ _ _);refine vn_ (p37 hnil true (λh=>by cases h) (by decide)) rfl ⟨?_,trivial⟩;rintro ws ⟨vk,vi,vf,y3,b3,rfl,hR3⟩;obtain ⟨rfl,rfl⟩:=hR3;exact VOK_fin (v6_ (ok7 rfl) rfl) (R20.no hn _ _ _ _ _ _ _ _ _)
 |cons a r=>
  rw [if_neg (λh=>h.elim (λh=>by cases h) (λh=>by simp at h))]at hR2;obtain ⟨rfl,rfl,hy2⟩:=hR2;have hy2:y2=jW_ a_ 1 r:=hy2;subst hy2;have ha0:H_ ((a::r).take 1)=(a.toNat:Int):=by show H_ [a]=_;rw [O_ (by show 1<=7;decide),po_]
  rw [ha0];have hr:r.length<=9998:=(by simp at hl;omega);have hO:E_ (k::a::r)=match x_ K a r with
    |none=>none
    |some (s,r')=>some (some s,r'):=by
   show (if k.toNat%9=0 then some (none,a::r)else match x_ (k.toNat%9) a r with
    |none=>none
    |some (s,r')=>some (some s,r'))=_
   rw [hKd,if_neg hz]
  refine wt_ (run_eql ..) rfl (v8_ rfl (λh3=>?_) (λh3=>wt_ (run_eql ..) rfl (v8_ rfl (λh6=>?_) (λh6=>wt_ (run_eql ..) rfl (v8_ rfl (λh8=>?_) (λh8=>?_))))))
  .have h3:K=3:=cEq (b:=3) h3;subst h3;refine vn_ (p34 (SlV.v r) false (λ_=>rfl) (n:=2) (by decide)) (yM_ false 2 (sQ_ c_ _)) ⟨?_,trivial⟩;rintro ws ⟨v,y3,b3,rfl,hR3⟩;by_cases hc:false=true\/r.length<2
   .rw [if_pos hc]at hR3;obtain ⟨rfl,rfl,rfl⟩:=hR3;have hn:E_ (k::a::r)=none:=by
     have hD3:x_ 3 a r=if 2<=r.length/\r_ 0 (r.take 2)<=(r.drop 2).length then some (⟨3,a,0,some ((r.drop 2).take (r_ 0 (r.take 2))),v0⟩,(r.drop 2).drop (r_ 0 (r.take 2)))else none:=rfl
     rw [hO,hD3,if_neg λe=>by have:=hc.resolve_left (by decide);omega]
    refine vn_ (p36 (l:=[]) (.inr ⟨rfl,rfl⟩) true (λh=>by cases h) (n:=0) (by decide)) rfl ⟨?_,trivial⟩;rintro ws ⟨z,y4,b4,rfl,hR4⟩;rw [if_pos (.inl rfl)]at hR4;obtain ⟨rfl,rfl,rfl⟩:=hR4;exact vy_ (xZ_ (SlV.v _) (by decide)) rfl rfl (VOK_fin (v6_ (ok7 (sQ_ c_ _)) rfl) (R20.no hn _ _ _ _ _ _ _ _ _))
   .rw [if_neg hc]at hR3;obtain ⟨rfl,rfl,rfl⟩:=hR3;have hle:2<=r.length:=by have:=λe=>hc (.inr e);omega
    have ht:(r.take 2).length=2:=(by rw [List.length_take];omega);have hlt:=F_ (r.take 2);rw [ht]at hlt;have hnv:H_ (r.take 2)=(r_ 0 (r.take 2):Int):=O_ (by omega);rw [hnv];have hD:x_ 3 a r=if 2<=r.length/\r_ 0 (r.take 2)<=(r.drop 2).length then some (⟨3,a,0,some ((r.drop 2).take (r_ 0 (r.take 2))),v0⟩,(r.drop 2).drop (r_ 0 (r.take 2)))else none:=rfl
    generalize hu:r_ 0 (r.take 2)=u at hlt hD;refine vn_ (p36 (SlV.v (r.drop 2)) false (λ_=>rfl) (n:=u) (by omega)) (yM_ false _ (sQ_ c_ _)) ⟨?_,trivial⟩;rintro ws ⟨z,y4,b4,rfl,hR4⟩;by_cases hc4:false=true\/(r.drop 2).length<u
    .rw [if_pos hc4]at hR4;obtain ⟨rfl,rfl,rfl⟩:=hR4;have hn:E_ (k::a::r)=none:=by rw [hO,hD,if_neg λe=>by have:=hc4.resolve_left (by decide);omega]
     exact vy_ (xZ_ (SlV.v _) (by rw [List.length_replicate];omega)) rfl (by show okL [jW_ a_ 1 _]=true;simp only [okL,sQ_ c_]) (VOK_fin (v6_ (ok7 (sQ_ c_ _)) rfl) (R20.no hn _ _ _ _ _ _ _ _ _))
    .rw [if_neg hc4]at hR4;obtain ⟨rfl,rfl,rfl⟩:=hR4;have hle4:u<=(r.drop 2).length:=by have:=λe=>hc4 (.inr e);omega
     have hy:E_ (k::a::r)=some (some ⟨3,a,0,some ((r.drop 2).take u),v0⟩,(r.drop 2).drop u):=(by rw [hO,hD,if_pos ⟨hle,hle4⟩]);exact vy_ (xZ_ (SlV.v _) (by rw [List.length_take,List.length_drop];omega)) rfl (by show okL [jW_ a_ 1 _]=true;simp only [okL,sQ_ c_]) (VOK_fin (v6_ (ok7 (sQ_ c_ _)) (sQ_ c_ _)) (R20.yes hy))
  .have h6:K=6:=cEq (b:=6) h6;subst h6;refine vn_ (p34 (SlV.v r) false (λ_=>rfl) (n:=4) (by decide)) (yM_ false 4 (sQ_ c_ _)) ⟨?_,trivial⟩;rintro ws ⟨v,y3,b3,rfl,hR3⟩;have hD:x_ 6 a r=if 4<=r.length then some (⟨6,a,r_ 0 (r.take 4),none,v0⟩,r.drop 4)else none:=rfl
   by_cases hc:false=true\/r.length<4
   .rw [if_pos hc]at hR3;obtain ⟨rfl,rfl,rfl⟩:=hR3;have hn:E_ (k::a::r)=none:=by rw [hO,hD,if_neg λe=>by have:=hc.resolve_left (by decide);omega]
    exact VOK_fin (v6_ (ok7 rfl) rfl) (R20.no hn _ _ _ _ _ _ _ _ _)
   .rw [if_neg hc]at hR3;obtain ⟨rfl,rfl,rfl⟩:=hR3;have hle:4<=r.length:=by have:=λe=>hc (.inr e);omega
    have ht:(r.take 4).length=4:=(by rw [List.length_take];omega);have hnv:H_ (r.take 4)=(r_ 0 (r.take 4):Int):=O_ (by omega);rw [hnv];have hy:E_ (k::a::r)=some (some ⟨6,a,r_ 0 (r.take 4),none,v0⟩,r.drop 4):=(by rw [hO,hD,if_pos hle]);exact VOK_fin (v6_ (ok7 rfl) (sQ_ c_ _)) (R20.yes hy)
  .have h8:K=8:=cEq (b:=8) h8;subst h8;refine vn_ (p37 (SlV.v r) false (λ_=>rfl) (by omega)) (by show okL [jW_ a_ 1 r,.bool false]=true;simp only [okL,sQ_ c_,okC]) ⟨?_,trivial⟩;rintro ws ⟨vk,vi,vf,y3,b3,rfl,hR3⟩;have hD:x_ 8 a r=match G_ r with
    |some (v,r')=>some (⟨8,a,0,none,v⟩,r')
    |none=>none:=rfl
   have hR3:(match G_ r with
    |some (v,r)=>b3=false/\v=⟨vk,vi,vf⟩/\y3=jW_ a_ 1 r
    |none=>b3=true/\y3=.nsl):=hR3
   cases hv:G_ r with
   |none=>rw [hv]at hR3 hD;obtain ⟨rfl,rfl⟩:=hR3;exact VOK_fin (v6_ (ok7 rfl) rfl) (R20.no (by rw [hO,hD]) _ _ _ _ _ _ _ _ _)
   |some p=>obtain ⟨v,r'⟩:=p;rw [hv]at hR3 hD;obtain ⟨rfl,rfl,rfl⟩:=hR3;have hy:E_ (k::a::r)=some (some ⟨8,a,0,none,⟨vk,vi,vf⟩⟩,r'):=(by rw [hO,hD]);exact VOK_fin (v6_ (ok7 rfl) (sQ_ c_ _)) (R20.yes hy)
  have h3:=cNe (b:=3) h3;have h6:=cNe (b:=6) h6;have h8:=cNe (b:=8) h8;have hD:x_ K a r=some (⟨K,a,0,none,v0⟩,r):=(by unfold x_;rw [if_neg h3,if_neg h6,if_neg h8]);have hy:E_ (k::a::r)=some (some ⟨K,a,0,none,v0⟩,r):=(by rw [hO,hD]);exact VOK_fin (v6_ (ok7 rfl) (sQ_ c_ _)) (R20.yes hy)
def c8:VC:=⟨⟨[],[]⟩,[],[(0,[⟨[(2,.slx 1 7 0),(3,.ptr 0 0)],[(0,[.slx 1 0 0,.slx 2 0 0])],2,3,[⟨1,7,0,2,none⟩],[],[]⟩])],0,true,[(18,ft18)]⟩
def t8:VT:=.loop 65 0 [.nsl,64,.bool false] (.cons 3 (Li Qc [66] 68<|It Qg [68,J 0] 69 (Cf 18 ft18 [66,67] 70 10<|.ite 81 (.done (65))<|.ite 79 (Li Za [65,.agg [72,73,74,75,76,77,78]] 82<|.again 0 0 [82,80,81])<|.again 0 0 [65,80,81])<|.done (65)) .nil)
theorem w5_ {k:UInt8} {r r':List UInt8} {o:Option PS} (h:E_ (k::r)=some (o,r')):r'.length<(k::r).length:=by
 have h:(if k.toNat%9=0 then some (none,r)else match r with
  |[]=>none
  |a::r=>match x_ (k.toNat%9) a r with
   |none=>none
   |some (s,r')=>some (some s,r'))=some (o,r'):=h
 by_cases hk:k.toNat%9=0
 .rw [if_pos hk]at h;injection h with h
  injection h with _ h
  subst h;simp
 .rw [if_neg hk]at h;cases r with
  |nil=>cases h
  |cons a r=>
   have h:(match x_ (k.toNat%9) a r with
    |none=>none
    |some (s,r')=>some (some s,r'))=some (o,r'):=h
   cases hd:x_ (k.toNat%9) a r with
   |none=>rw [hd]at h;cases h
   |some p=>
    obtain ⟨s,r2⟩:=p;rw [hd]at h;injection h with h
    injection h with _ h
    subst h;have:=wc_ hd;simp;omega
theorem zd_ (l:List PS):l.length<=(wo_ l).length:=by
 induction l with
 |nil=>exact Nat.le_refl _
 |cons s l ih=>show l.length+1<=(aI_ s++wo_ l).length;rw [List.length_append];have:1<=(aI_ s).length:=(by show 1<=(sW_ s).length+1+1;omega);omega
theorem xf_ (l:List UInt8):(k_ l).length<=l.length:=Nat.le_trans (zd_ _) (wI_ _ l (Nat.le_refl _))
structure DS where
 a:List PS
 r:List UInt8
 nl:Bool
def DS.y (q:DS):AV:=match q.nl with
 |true=>.nsl
 |false=>jW_ a_ 1 q.r
def DS.st (q:DS):List AV:=[bb_ h_ 7 q.a,q.y,.bool false]
structure DOk (l:List UInt8) (q:DS):Prop where
 n:q.nl=true->q.r=[]
 e:q.a++k_ q.r=k_ l
theorem DS.by' {l:List UInt8} {q:DS} (h:DOk l q):By q.r q.y:=by
 obtain ⟨a,r,nl⟩:=q;cases nl with
 |true=>exact .inr ⟨h.n rfl,rfl⟩
 |false=>exact SlV.v _
theorem DS.len {l:List UInt8} {q q':DS} (h:DOk l q) (h':DOk l q') (e:q.st=q'.st):q.r.length=q'.r.length:=by
 obtain ⟨a,r,nl⟩:=q;obtain ⟨a',r',nl'⟩:=q';have e:=(List.cons.inj (List.cons.inj e).2).1;cases nl<;>cases nl'
 have e:AV.vsl r.length 1 (a9_ a_ r)=AV.vsl r'.length 1 (a9_ a_ r'):=e;injection e;cases e;cases e;rw [show r=[] from h.n rfl,show r'=[] from h'.n rfl]
theorem p8 {l:List UInt8} {x:AV} (h:By l x) (hl:l.length<=10000):iu_ Tryz.prog 8 [x] (bb_ h_ 7 (k_ l)):=by
 have hx:=h.ok c_;refine uW_ (sh:=[none]) (ls:=[x]) (c:=c8) (n:=300) (t:=t8) mo ov (by rcases h with rfl|⟨_,rfl⟩<;>rfl) (by simp only [okL,hx]) (qB_ (u3_ I_ _)) (λY _=>wB_ _) rfl (by kernel_rfl) λY hf hg=>?_;unfold t8;obtain ⟨q0,hq0,e0,hr0⟩:∃q0:DS,DOk l q0/\[.nsl,x,.bool false]=q0.st/\q0.r=l:=by rcases h with rfl|⟨rfl,rfl⟩;exact ⟨⟨[],l,false⟩,⟨(λh=>by cases h),rfl⟩,rfl,rfl⟩;exact ⟨⟨[],[],true⟩,⟨λ_=>rfl,rfl⟩,rfl,rfl⟩
 refine vA_ (ι:=DS) DS.st (λq=>DOk l q/\q.r.length<=l.length) (λq=>q.r.length) q0 ⟨hq0,by rw [hr0];exact Nat.le_refl _⟩ e0 (λq hq=>by show okL [bb_ h_ 7 q.a,q.y,.bool false]=true;simp only [okL,okC,u3_ I_,(DS.by' hq.1).ok c_]) (λq q' hq hq' e=>DS.len hq.1 hq'.1 e) (λq hq=>?_);obtain ⟨hq,hle⟩:=hq;refine wt_ (l_ (DS.by' hq)) rfl (wt_ (run_gtr ..) rfl (v8_ rfl (λhp=>?_) (λhp=>vz_ ?_)))
 .have hp:(0:Int)<(q.r.length:Int):=of_decide_eq_true hp;obtain ⟨a,r,nl⟩:=q;have he:a++k_ r=k_ l:=hq.e;have hnl:nl=false:=by
   cases nl with
   |false=>rfl
   |true=>rw [show (DS.mk a r true).r=[] from hq.n rfl]at hp;simp at hp
  subst hnl;have hp:(0:Int)<(r.length:Int):=hp;have hle:r.length<=l.length:=hle;obtain ⟨k,r,rfl⟩:∃k r',r=k::r':=by
   cases r with
   |nil=>simp at hp
   |cons k r=>exact ⟨k,r,rfl⟩
  have hal:a.length<=l.length:=(by have h1:=congrArg List.length he;have h2:=xf_ l;rw [List.length_append]at h1;omega);refine vn_ (p18 (k:=k) (r:=r) (by omega)) (by show okL [jW_ a_ 1 (k::r),.bool false]=true;simp only [okL,okC,sQ_ c_]) ⟨?_,trivial⟩;rintro ws ⟨cz0,cz1,cz2,cz3,cz4,cz5,cz6,o,y,b,rfl,hR⟩;have hO:=yu_ k r;cases hs:E_ (k::r)with
  |none=>rw [hs]at hR hO;have hR:b=true:=hR;subst hR;refine v8_ (t:=true) rfl (λ_=>vz_ ?_) (λh=>by cases h);show bb_ h_ 7 a=bb_ h_ 7 (k_ l);rw [←he,hO,List.append_nil]
  |some p=>
   obtain ⟨os,r'⟩:=p;have hlt:=w5_ hs;rw [hs]at hR hO;cases os with
   |none=>obtain ⟨rfl,rfl,rfl⟩:=hR;refine v8_ (t:=false) rfl (λh=>by cases h) (λ_=>v8_ (t:=false) rfl (λh=>by cases h) (λ_=>vm_ rfl ⟨⟨a,r',false⟩,⟨⟨(λh=>by cases h),?_⟩,?_⟩,rfl,hlt⟩));show a++k_ r'=k_ l;rw [←he,hO];show r'.length<=l.length;omega
   |some s=>
    obtain ⟨rfl,rfl,rfl,hc⟩:=hR;injection hc with e0 hc
    injection hc with e1 hc
    injection hc with e2 hc
    injection hc with e3 hc
    injection hc with e4 hc
    injection hc with e5 hc
    injection hc with e6 _
    subst e0 e1 e2 e3 e4 e5 e6;refine v8_ (t:=false) rfl (λh=>by cases h) (λ_=>v8_ (t:=true) rfl (λ_=>wt_ (uZ_ r1_ (by decide) (by decide) a s (by omega)) (u3_ I_ _) (vm_ rfl ⟨⟨a++[s],r',false⟩,⟨⟨(λh=>by cases h),?_⟩,?_⟩,rfl,hlt⟩)) (λh=>by cases h));show (a++[s])++k_ r'=k_ l;rw [←he,hO,List.append_assoc];rfl;show r'.length<=l.length;omega
 have hp:¬(0:Int)<(q.r.length:Int):=of_decide_eq_false hp;have hr:q.r=[]:=List.length_eq_zero_iff.1 (by omega);have he:=hq.e;rw [hr,h5_,List.append_nil]at he;show bb_ h_ 7 q.a=bb_ h_ 7 (k_ l);rw [he]
end Go.Proofs.YtmgenobllanmjaaGreatDoor.vars
