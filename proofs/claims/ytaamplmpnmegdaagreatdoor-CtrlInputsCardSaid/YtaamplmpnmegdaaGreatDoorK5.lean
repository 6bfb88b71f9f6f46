/-
  CtrlInputs: the walk.
-/
import Derived.Test.YtaamplmpnmegdaaGreatDoorFA
set_option maxRecDepth 100000
set_option linter.unusedVariables false
set_option linter.unusedSimpArgs false
namespace Go.Proofs.YtaamplmpnmegdaaGreatDoor.vars
open Go Go.Sx
def c3:VC:=⟨⟨[],[]⟩,[(5,[none]),(6,[(some 19),none,none]),(8,[(some 19)]),(9,[(some 19),(some 2)]),(10,[none]),(11,[none])],[(0,[⟨[(3,.ptr 0 0),(0,64),(6,.slx 0 0 0)],[(0,[.slx 1 0 0,.slx 2 0 0,.slx 3 0 0,.slx 4 0 0,.slx 5 0 0,.slx 6 0 0,.slx 7 0 0,.slx 8 0 0,.slx 9 0 0,.slx 10 0 0,.slx 11 0 0,.slx 12 0 0,.slx 13 0 0,.slx 14 0 0,.slx 15 0 0,.slx 16 0 0,.slx 17 0 0,.slx 18 0 0,.slx 19 0 0])],1,20,[],[],[]⟩]),(2,[⟨[(6,112),(3,.ptr 0 0),(0,64),(7,118),(8,.slx 0 0 0)],[(0,[.slx 1 0 0,.slx 2 0 0,.slx 3 0 0,.slx 4 0 0,.slx 5 0 0,.slx 6 0 0,.slx 7 0 0,.slx 8 0 0,.slx 9 0 0,.slx 10 0 0,.slx 11 0 0,.slx 12 0 0,.slx 13 0 0,.slx 14 0 0,.slx 15 0 0,.slx 16 0 0,.slx 17 0 0,.slx 18 0 0,.slx 19 0 0])],1,20,[],[],[]⟩])],0,true,[]⟩
def t3:VT:=
 (.call 5 [] 65 [none]
 (K Q3 [65] 66
 (.ite 66
 (.done (.bool false))
 (K (.len 22) [64] 67
 (K (.bin .gtr 3 false true) [67,J 12] 68
 (.ite 68
 (.done (.bool true))
 (.call 6 [.str [105,110,32,97,32,58,32,105,110,116,59,32,105,110,32,98,32,58,32,98,111,111,108,59,32,111,117,116,32,111,32,58,32,105,110,116,32,58,61,32,49,44,32,57,59,32,118,97,114,32,110,32,58,32,105,110,116,59,32,118,97,114,32,120,32,58,32,105,110,116,59,32,118,97,114,32,114,32,58,32,114,101,97,108,59,32,118,97,114,32,107,32,58,32,105,110,116,91,51,93,59,32,110,32,58,61,32,110,32,43,32,49,59,32,111,32,58,61,32,120,32,43,32,97,59,32,105,102,32,98,32,116,104,101,110,32,107,91,120,93,32,58,61,32,97,59,32,101,110,100,32,114,32,58,61,32,114,32,43,32,48,46,53,59],J 100] 69 [(some 19),none,none]
 (K Q0 [89,J 0] 90
 (.ite 90
 (.done (.bool false))
 (K (.len 29) [74] 91
 (K Q9 [91,J 9] 92
 (.ite 92
 (.done (.bool false))
 (.call 8 [.agg [69,70,71,72,73,74,75,76,77,78,79,80,81,82,83,84,85,86,87]] 93 [(some 19)]
 (.loop 112 0 [J 0,93,94,95,96,97,98,99,100,101,102,103,104,105,106,107,108,109,110,111]
 (.cons 20
 (K (.len 22) [64] 132
 (K Qc [112,132] 133
 (.ite 133
 (K Q4 [64,112] 134
 (K Q5 [134,J 0] 135
 (K Q6 [135] 136
 (K Qa [136] 137
 (.call 9 [.agg [113,114,115,116,117,118,119,120,121,122,123,124,125,126,127,128,129,130,131],.agg [J 8,J 0,J 0,.nsl,J 2,137,.flt .f64 0]] 138 [(some 19),(some 2)]
 (.loop 159 0 [J 0,138,139,140,141,142,143,144,145,146,147,148,149,150,151,152,153,154,155,156]
 (.cons 20
 (K Q4 [64,112] 179
 (K Q5 [179,J 1] 180
 (K Q6 [180] 181
 (K (.bin .rem 5 false true) [181,.int .u8 10] 182
 (K (.conv 5 3) [182] 183
 (K Qc [159,183] 184
 (.ite 184
 (.call 10 [.agg [160,161,162,163,164,165,166,167,168,169,170,171,172,173,174,175,176,177,178]] 185 [none]
 (.ite 185
 (.call 8 [.agg [160,161,162,163,164,165,166,167,168,169,170,171,172,173,174,175,176,177,178]] 186 [(some 19)]
 (K (.len 29) [191] 205
 (K Q9 [205,J 9] 206
 (.ite 206
 (.done (.bool false))
 (K (.iaddr 29) [191,J 0] 207
 (K (.faddr 51 1) [207] 208
 (K (.load 2) [208] 209
 (K Q4 [64,112] 210
 (K Q5 [210,J 0] 211
 (K Q6 [211] 212
 (K Qa [212] 213
 (K Qg [209,213] 214
 (.ite 214
 (.done (.bool false))
 (K Q1 [112,J 1] 215
 (.again 0 0 [215,186,187,188,189,190,191,192,193,194,195,196,197,198,199,200,201,202,203,204])))))))))))))))
 (.call 11 [165,118] 186 [none]
 (K Q3 [186] 187
 (.ite 187
 (.done (.bool false))
 (.call 9 [.agg [160,161,162,163,164,165,166,167,168,169,170,171,172,173,174,175,176,177,178],.agg [J 1,J 0,J 0,.nsl,J 0,J 0,.flt .f64 0]] 188 [(some 19),(some 2)]
 (K Q1 [159,J 1] 209
 (.again 1 0 [209,188,189,190,191,192,193,194,195,196,197,198,199,200,201,202,203,204,205,206]))))))))
 (.call 8 [.agg [160,161,162,163,164,165,166,167,168,169,170,171,172,173,174,175,176,177,178]] 185 [(some 19)]
 (K (.len 29) [190] 204
 (K Q9 [204,J 9] 205
 (.ite 205
 (.done (.bool false))
 (K (.iaddr 29) [190,J 0] 206
 (K (.faddr 51 1) [206] 207
 (K (.load 2) [207] 208
 (K Q4 [64,112] 209
 (K Q5 [209,J 0] 210
 (K Q6 [210] 211
 (K Qa [211] 212
 (K Qg [208,212] 213
 (.ite 213
 (.done (.bool false))
 (K Q1 [112,J 1] 214
 (.again 0 0 [214,185,186,187,188,189,190,191,192,193,194,195,196,197,198,199,200,201,202,203]))))))))))))))))))))))
 .nil)))))))
 (.done (.bool true)))))
 .nil)))))))))))))))
theorem doI (x:SS) (h:x.p=0) {v:Int} (h0:0<=v) (h1:v<=255):hR_ Tryz.prog 9 [.agg (enc x),i_ (J v)] (.tup [.agg (enc { x with i:=v }),D0]):=by obtain ⟨p,i,a,o,n,r,N,mo,mn,mr,s,f⟩:=x;have h:p=0:=h;subst h;exact dI v h0 h1 i a o n N mo mn r mr s
section
variable {l:List (UInt8×UInt8)} {x:AV}
theorem z_ (h:SlV b_ 2 l x) {i:Nat} (hi:i<l.length):(XOp.iaddr 22).run Tryz.prog [x,.int .i64 (i:Int)]=some (.vptr (.int .u8 (l[i].1.toNat:Int)::.int .u8 (l[i].2.toNat:Int)::h6_ b_ (l.drop (i+1)))):=by rw [h.ia (e:=48) Tryz.underlying22 (ti:=(Tryz.prog.info? 48).get!) (by kernel_rfl) (by kernel_rfl) Y_ hi .i64,List.drop_eq_getElem_cons hi];rfl
theorem J_ (i:Nat):okL (h6_ b_ (l.drop i))=true:=ok_ F_ _
end
theorem m_ (a b:AV) (r:List AV):(XOp.iaddr 48).run Tryz.prog [.vptr (a::b::r),.int .i64 0]=some (.vptr (a::b::r)):=by kernel_rfl
theorem A_ (a b:AV) (r:List AV):(XOp.iaddr 48).run Tryz.prog [.vptr (a::b::r),.int .i64 1]=some (.vptr (b::r)):=by kernel_rfl
theorem ld5 (a:AV) (r:List AV):(XOp.load 5).run Tryz.prog [.vptr (a::r)]=some a:=sJ_ Tryz.underlying5 rfl _ _
theorem v_ (c:UInt8):(XOp.conv 5 2).run Tryz.prog [.int .u8 (c.toNat:Int)]=some (.int .i64 (c.toNat:Int)):=by have:=UInt8.toNat_lt c;rw [tn_ Tryz.underlying5 Tryz.underlying2,vh_ (by omega) (by omega)]
theorem M_ (n:Nat) (h:n<256):(XOp.conv 5 3).run Tryz.prog [.int .u8 (n:Int)]=some (.int .i64 (n:Int)):=by rw [tn_ Tryz.underlying5 Tryz.underlying3,vh_ (by omega) (by omega)]
theorem d8_ (c:UInt8):(XOp.bin .rem 5 false true).run Tryz.prog [.int .u8 (c.toNat:Int),.int .u8 10]=some (.int .u8 ((c.toNat%10:Nat):Int)):=by rw [uH_ (by decide)];rfl
theorem w_ (cs:List AV):(XOp.len 29).run Tryz.prog [.vsl 9 3 cs]=some (.int .i64 9):=by kernel_rfl
theorem tI_ (a o n r:AV):(XOp.iaddr 29).run Tryz.prog [.vsl 9 3 (e_ a o n r),.int .i64 0]=some (.vptr (e_ a o n r)):=by kernel_rfl
theorem s9_ (a o n r:AV):(XOp.faddr 51 1).run Tryz.prog [.vptr (e_ a o n r)]=some (.vptr (a::(e_ a o n r).drop 2)):=by kernel_rfl
theorem ld2 (a:AV) (r:List AV):(XOp.load 2).run Tryz.prog [.vptr (a::r)]=some a:=sJ_ Tryz.underlying2 rfl _ _
structure As (x z:SS):Prop where
 i:z.i=x.i
 a:z.a=x.a
 o:z.o=x.o
 n:z.n=x.n
 r:z.r=x.r
theorem As.nx {x z:SS} (h:As x z) (hp:z.p<=13):As x (nx z):=by obtain ⟨e1,e2,e3,e4⟩:=B_ hp;exact ⟨(Z_ z).trans h.i,e1.trans h.a,e2.trans h.o,e3.trans h.n,e4.trans h.r⟩
theorem As.same {x z:SS} (h:As x z):hR_ Tryz.prog 11 [.vsl 9 3 (e_ (J z.a) (J z.o) (J z.n) (fv z.r)),.vsl 9 3 (e_ (J x.a) (J x.o) (J x.n) (fv x.r))] (.bool true):=by rw [h.a,h.o,h.n,h.r];exact p11 _ _ _ _
theorem K_ {p:Nat} (h:p<=14):Nat.beq p 15=false:=by
 cases hb:Nat.beq p 15 with
 |false=>rfl
 |true=>have:=Nat.eq_of_beq_eq_true hb;omega
theorem t4_:okL (C0++[J 0,J 0])=true:=by kernel_rfl
theorem q3 {l:List (UInt8×UInt8)} {x:AV} (hs:SlV b_ 2 l x):hR_ Tryz.prog 3 [x] (.bool true):=by
 have hA:=hs.ok F_;refine tN_ (sh:=[none]) (ls:=[x]) (c:=c3) (n:=300) (t:=t3) mox ov rfl (by simp only [okL,hA]) rfl (λY _=>u8_ _) rfl (by kernel_rfl) λY hf hg=>?_;unfold t3;refine uh_ k5 rfl rfl (u1_ (uW_ ..) rfl (uP_ (t:=false) rfl (λh=>by cases h) (λ_=>?_)));refine u1_ (hs.len Tryz.underlying22) rfl (u1_ (run_gtr ..) rfl (uP_ rfl (λ_=>ui_ rfl) (λhl=>?_)));have hl:l.length<=12:=by have:=of_decide_eq_false hl;omega
 refine uh_ (vs:=C0++[J 0,J 0]) k6 rfl t4_ (u1_ (run_neq ..) rfl (uP_ (t:=false) rfl (λh=>by cases h) (λ_=>?_)));refine u1_ (w_ _) rfl (u1_ (run_neq ..) rfl (uP_ (t:=false) rfl (λh=>by cases h) (λ_=>?_)));refine uh_ (vs:=enc x0++[]) k8 rfl (by rw [List.append_nil];exact c_ x0) ?_;refine uj_ (ι:=Nat×SS) (λq=>J (q.1:Int)::enc q.2) (λq=>q.1<=l.length/\q.2.p=0) (λq=>l.length-q.1) (0,x0) ⟨Nat.zero_le _,rfl⟩ rfl (λq _=>c_ q.2) (λq q' _ _ h=>by
  have h:=(List.cons.inj h).1;injection h with _ h
  show l.length-q.1=l.length-q'.1;omega) (λq hq=>?_)
 obtain ⟨k,y⟩:=q;obtain ⟨hk,hp⟩:=hq;have hk:k<=l.length:=hk;have hp:y.p=0:=hp;refine u1_ (hs.len Tryz.underlying22) rfl (u1_ (run_lss ..) rfl (uP_ rfl (λhlt=>?_) (λ_=>ui_ rfl)));have hlt:k<l.length:=by have:=of_decide_eq_true hlt;omega
 have hv0:(0:Int)<=(l[k].1.toNat:Int):=by omega
 have hv1:((l[k].1.toNat:Nat):Int)<=255:=by have:=UInt8.toNat_lt l[k].1;omega
 refine u1_ (z_ hs hlt) (J_ _) (u1_ (m_ ..) (J_ _) (u1_ (ld5 ..) rfl (u1_ (v_ _) rfl (uh_ (doI y hp hv0 hv1) rfl (ok_.okL_join (c_ _) rfl) ?_))))
 refine uj_ (ι:=Nat×SS) (λq=>J (q.1:Int)::enc q.2) (λq=>q.1<=9/\q.2.p=q.1/\As { y with i:=(l[k].1.toNat:Int) } q.2) (λq=>9-q.1) (0,{ y with i:=(l[k].1.toNat:Int) }) ⟨Nat.zero_le _,hp,⟨rfl,rfl,rfl,rfl,rfl⟩⟩ rfl (λq _=>c_ q.2) (λq q' _ _ h=>by
  have h:=(List.cons.inj h).1;injection h with _ h
  show 9-q.1=9-q'.1;omega) (λq hq=>?_)
 obtain ⟨j,z⟩:=q;obtain ⟨hj,hz,hA2⟩:=hq;have hj:j<=9:=hj;have hz:z.p=j:=hz;have hA2:As { y with i:=(l[k].1.toNat:Int) } z:=hA2;have hm:l[k].2.toNat%10<10:=Nat.mod_lt _ (by decide);refine u1_ (z_ hs hlt) (J_ _) (u1_ (A_ ..) (J_ _) (u1_ (ld5 ..) rfl (u1_ (d8_ _) rfl (u1_ (M_ _ (by omega)) rfl (u1_ (run_lss ..) rfl (uP_ rfl (λhjl=>?_) (λ_=>?_)))))));have hjl:j<9:=(by have:=of_decide_eq_true hjl;omega);refine uh_ (p10 z) rfl rfl (uP_ (t:=false) (congrArg (λb=>some (AV.bool b)) (K_ (by omega))) (λh=>by cases h) (λ_=>?_));refine uh_ hA2.same rfl rfl (u1_ (uW_ ..) rfl (uP_ (t:=false) rfl (λh=>by cases h) (λ_=>?_)));refine uh_ (doM z (by omega)) rfl (ok_.okL_join (c_ _) rfl) (u1_ (run_add ..) rfl (t7_ rfl ?_));refine ⟨(j+1,nx z),⟨?_,?_,hA2.nx (by omega)⟩,?_,?_⟩;show j+1<=9;omega;show (nx z).p=j+1;rw [o_ (by omega),hz];show J (IntKind.i64.wrap ((j:Int)+1))::enc (st z)=J ((j+1:Nat):Int)::enc (nx z);rw [h_ (by omega),n_ (by omega)];show 9-(j+1)<9-j;omega;refine uh_ (p8 z (by omega)) rfl (by rw [List.append_nil];exact c_ _) (u1_ (w_ _) rfl (u1_ (run_neq ..) rfl (uP_ (t:=false) rfl (λh=>by cases h) (λ_=>?_))));have e:(a_ z).a=(l[k].1.toNat:Int):=(H_ z).trans hA2.i;have hcl:=f_ (a:=J (a_ z).a) (o:=J (a_ z).o) (n:=J (a_ z).n) rfl rfl rfl (vl_ (a_ z).r);refine u1_ (tI_ ..) hcl (u1_ (s9_ ..) hcl (u1_ (ld2 ..) rfl (u1_ (z_ hs hlt) (J_ _) (u1_ (m_ ..) (J_ _) (u1_ (ld5 ..) rfl (u1_ (v_ _) rfl (u1_ (run_neq ..) rfl (uP_ rfl (λh=>?_) (λ_=>u1_ (run_add ..) rfl (t7_ rfl ?_))))))))));have h:(!decide ((a_ z).a=(l[k].1.toNat:Int)))=true:=h;rw [decide_eq_true e]at h;cases h;refine ⟨(k+1,a_ z),⟨hlt,I_ z⟩,?_,?_⟩;show J (IntKind.i64.wrap ((k:Int)+1))::enc (a_ z)=J ((k+1:Nat):Int)::enc (a_ z);rw [n_ (by omega)];show l.length-(k+1)<l.length-k;omega
end Go.Proofs.YtaamplmpnmegdaaGreatDoor.vars
