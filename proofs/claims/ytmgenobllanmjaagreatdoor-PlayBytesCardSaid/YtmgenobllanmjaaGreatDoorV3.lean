/-
  Rows of bytes: held against each other, copied, put together; numbers written.
-/
import Derived.Test.YtmgenobllanmjaaGreatDoorFA
import Derived.Test.YtmgenobllanmjaaGreatDoorSyK
set_option maxRecDepth 100000
set_option linter.unusedVariables false
set_option linter.unusedSimpArgs false
namespace Go.Proofs.YtmgenobllanmjaaGreatDoor.vars
open Go Go.Sx
def c41:VC:=⟨⟨[],[]⟩,[],[(0,[⟨[(13,.slx 0 0 0),(1,65),(0,64),(12,69)],[],0,1,[],[],[]⟩])],0,true,[]⟩
def t41:VT:=Li Qc [64] 66<|Li Qc [65] 67<|It Qu [66,67] 68 (.done (.bool false))<|Li Qc [64] 69<|.loop 70 0 [J 0] (.cons 1 (It Qd [70,69] 71 (Li Qz [64,70] 72<|Li Z0 [72] 73<|Li Qz [65,70] 74<|Li Z0 [74] 75<|It (.bin .neq 5 false false) [73,75] 76 (.done (.bool false))<|Li Q4 [70,J 1] 77<|.again 0 0 [77])<|.done (.bool true)) .nil)
def c23:VC:=⟨⟨[],[]⟩,[],[(0,[⟨[(5,.slx 0 0 0),(0,64),(4,.slx 0 1 1)],[],1,2,[⟨0,1,1,4,none⟩],[],[]⟩])],0,true,[]⟩
def t23:VT:=Li Qp [65,J 1] 66<|.loop 67 0 [66,.nsl] (.cons 2 (It Qn [67,J 0] 69 (Li Zj [J 8,67] 70<|Li U4 [64,70] 71<|Li (.conv 2 5) [71] 72<|Li Qb [68,.agg [72]] 73<|Li Qp [67,J 1] 74<|.again 0 0 [74,73])<|.done (68)) .nil)
def c22:VC:=⟨⟨[],[]⟩,[],[(0,[⟨[(11,.slx 0 0 0),(3,.slx 1 0 0),(9,64),(0,64),(10,65)],[],0,2,[],[],[]⟩]),(2,[⟨[(27,.slx 0 0 0),(6,.slx 0 1 1),(25,64),(26,.slx 2 0 0)],[],1,3,[⟨0,1,1,6,none⟩],[],[]⟩])],0,true,[]⟩
def t22:VT:=Li Z6 [64] 65<|.loop 66 0 [J 0,J 0] (.cons 2 (It Qd [66,65] 68 (Li Z7 [64,66] 69<|Li Z5 [69] 70<|Li Qc [70] 71<|Li U6 [67,71] 72<|It Qi [72,J 0] 73 .bad<|Li Q4 [66,J 1] 74<|.again 0 0 [74,72])<|It Qi [67,J 0] 69 .bad<|Li Z1 [67,J 0] 70<|It Qg [70,J 0] 71 (Li U7 [70] 72<|Li .tkx [72,72,J 0] 73<|Li Z6 [64] 74<|.loop 75 0 [J 0,73,74] (.cons 3 (It Qd [75,77] 78 (Li Z7 [64,75] 79<|Li Z5 [79] 80<|Li Qb [76,80] 81<|Li Q4 [75,J 1] 82<|.again 1 0 [82,81,77])<|.done (76)) .nil))<|Li Z6 [64] 72<|.loop 73 0 [J 0,.nsl,72] (.cons 3 (It Qd [73,75] 76 (Li Z7 [64,73] 77<|Li Z5 [77] 78<|Li Qb [74,78] 79<|Li Q4 [73,J 1] 80<|.again 1 0 [80,79,75])<|.done (74)) .nil)) .nil)
theorem zp_ (t:TypeId) (cx cy:Bool) (a b:UInt8):(XOp.bin .neq t cx cy).run Tryz.prog [.int .u8 (a.toNat:Int),.int .u8 (b.toNat:Int)]=some (.bool (!decide (a=b))):=by
 rw [run_neq]
 congr 3
 have:((a.toNat:Int)=(b.toNat:Int))=(a=b):=propext ⟨λh=>UInt8.toNat_inj.1 (by omega),λh=>by rw [h]⟩;simp only [this]
theorem p41 {l m:List UInt8} {x y:AV} (hx:By l x) (hy:By m y) (hl:l.length<=1000000):iu_ Tryz.prog 41 [x,y] (.bool (decide (l=m))):=by
 refine uW_ (sh:=[none,none]) (ls:=[x,y]) (c:=c41) (n:=300) (t:=t41) mo ov rfl (by simp only [okL,hx.ok c_,hy.ok c_]) rfl (λY _=>wB_ _) rfl (by kernel_rfl) λY hf hg=>?_;unfold t41;refine wt_ (l_ hx) rfl (wt_ (l_ hy) rfl (wt_ (run_neq ..) rfl (v8_ rfl (λh=>vz_ ?_) (λh=>?_))));have h:(!decide ((l.length:Int)=(m.length:Int)))=true:=h;show AV.bool false=AV.bool (decide (l=m));rw [decide_eq_false λe=>by rw [e]at h;simp at h];have h:(!decide ((l.length:Int)=(m.length:Int)))=false:=h;have hlen:l.length=m.length:=by have:(l.length:Int)=(m.length:Int):=(by simpa using h);omega
 refine wt_ (l_ hx) rfl ?_;refine vA_ (ι:=Nat) (λi=>[.int .i64 (i:Int)]) (λi=>i<=l.length/\l.take i=m.take i) (λi=>l.length-i) 0 ⟨Nat.zero_le _,rfl⟩ rfl (λ_ _=>rfl) (λi j _ _ h=>?_) (λi hi=>?_)
 .have h:=(List.cons.inj h).1;injection h with _ h
  omega
 obtain ⟨hi,he⟩:=hi;refine wt_ (run_lss ..) rfl (v8_ rfl (λhlt=>?_) (λhlt=>vz_ ?_));have hlt:(i:Int)<(l.length:Int):=of_decide_eq_true hlt;have hlt:i<l.length:=(by omega);have hlt2:i<m.length:=(by omega);refine wt_ (yD_ hx hlt) (yL_ _) (wt_ (ld5 hlt) rfl (wt_ (yD_ hy hlt2) (yL_ _) (wt_ (ld5 hlt2) rfl (wt_ (zp_ ..) rfl (v8_ rfl (λhne=>vz_ ?_) (λhne=>wt_ (run_add ..) rfl (vm_ rfl ⟨i+1,⟨hlt,?_⟩,?_,?_⟩)))))));have hne:(!decide (l[i]=m[i]))=true:=hne;show AV.bool false=AV.bool (decide (l=m));rw [decide_eq_false λe=>by subst e;simp at hne];have hne:(!decide (l[i]=m[i]))=false:=hne;have hne:l[i]=m[i]:=(by simpa using hne);rw [←List.take_append_getElem hlt,←List.take_append_getElem hlt2,he,hne];show [AV.int .i64 (IntKind.i64.wrap ((i:Int)+1))]=[AV.int .i64 ((i+1:Nat):Int)];rw [bq_ (by omega)];omega;have hlt:¬(i:Int)<(l.length:Int):=of_decide_eq_false hlt;have e:l=m:=(by rw [List.take_of_length_le (by omega:l.length<=i),List.take_of_length_le (by omega:m.length<=i)]at he;exact he);show AV.bool true=AV.bool (decide (l=m));rw [decide_eq_true e]
theorem wF_ {l:List UInt8} {x:AV} (h:By l x):by_ 1 x=some (l.length,a9_ a_ l):=by rcases h with rfl|⟨rfl,rfl⟩;have hl:(a9_ a_ l).length=l.length*1:=bw_ ev_ l;show (match ak_ ⟨hnil,0,0⟩ (.vsl l.length 1 (a9_ a_ l)) l.length 1 with|some c=>some (l.length,c)|none=>none)=_;have:ak_ ⟨hnil,0,0⟩ (.vsl l.length 1 (a9_ a_ l)) l.length 1=some (a9_ a_ l):=(by show aX_ (Nat.mul l.length 1) _=_;have h:=cN_ (a9_ a_ l) [];rw [List.append_nil,hl]at h;exact h);rw [this];rfl
theorem K_ {l:List UInt8} {x:AV} (h:By l x) (a:List UInt8) (hl:a.length+l.length<=1000000):(XOp.app 1 1).run Tryz.prog [jW_ a_ 1 a,x]=some (jW_ a_ 1 (a++l)):=by
 show (match by_ 1 x with|some (n,l')=>iA_ 1 1 (jW_ a_ 1 a) n l'|none=>none)=_;rw [wF_ h];show iA_ 1 1 (jW_ a_ 1 a) l.length (a9_ a_ l)=_;have h1:(a9_ a_ l).length=l.length*1:=bw_ ev_ l;have h2:(a9_ a_ a).length=a.length*1:=bw_ ev_ a;unfold iA_ jW_;simp only [h1,h2,decide_true,and_self];cases l with
 |nil=>simp [a9_]
 |cons c r=>have c1:(Nat.ble (Nat.mul (Nat.add a.length (r.length+1)) 1) 1073741824&&Nat.ble (Nat.add a.length (r.length+1)) 1073741824&&Nat.blt 0 1)=true:=(by have e:Nat.mul (Nat.add a.length (r.length+1)) 1=a.length+(r.length+1):=Nat.mul_one _;have e2:Nat.add a.length (r.length+1)=a.length+(r.length+1):=rfl;simp at hl;rw [e,e2,Nat.ble_eq_true_of_le (by omega)];rfl);simp only [List.length_cons,c1,List.length_append,dw_];rfl
theorem wT_ {a:List UInt8} (h:a≠[]):bb_ a_ 1 a=jW_ a_ 1 a:=by
 cases a with
 |nil=>exact absurd rfl h
 |cons c r=>rfl
theorem Ak_ {l:List UInt8} {x:AV} (h:By l x) (a:List UInt8) (hl:a.length+l.length<=1000000):(XOp.app 1 1).run Tryz.prog [bb_ a_ 1 a,x]=some (bb_ a_ 1 (a++l)):=by
 by_cases ha:a=[]
 .subst ha;show (match by_ 1 x with|some (n,l')=>iA_ 1 1 .nsl n l'|none=>none)=_;rw [wF_ h];show iA_ 1 1 .nsl l.length (a9_ a_ l)=_;have h1:(a9_ a_ l).length=l.length*1:=bw_ ev_ l;unfold iA_;simp only [h1,decide_true];cases l with
  |nil=>rfl
  |cons c r=>have c1:(Nat.ble (Nat.mul (r.length+1) 1) 1073741824&&Nat.ble (r.length+1) 1073741824&&Nat.blt 0 1)=true:=(by have e:Nat.mul (r.length+1) 1=r.length+1:=Nat.mul_one _;simp at hl;rw [e,Nat.ble_eq_true_of_le (by omega)];rfl);simp only [List.length_cons,c1];rfl
 rw [wT_ ha,K_ h a hl,wT_ (by simp [ha])]
theorem xZ_ {l:List UInt8} {x:AV} (h:By l x) (hl:l.length<=1000000):iu_ Tryz.prog 35 [x] x:=p35 ⟨l,x,h⟩ hl
theorem p23 (v:Int) {n:Nat} (hn:n<=8):iu_ Tryz.prog 23 [.int .i64 v,.int .i64 (n:Int)] (bb_ a_ 1 (d_ v n)):=by
 refine uW_ (sh:=[none,none]) (ls:=[.int .i64 v,.int .i64 (n:Int)]) (c:=c23) (n:=300) (t:=t23) mo ov rfl rfl (qB_ (u3_ c_ _)) (λY _=>wB_ _) rfl (by kernel_rfl) λY hf hg=>?_;unfold t23;refine wt_ (r:=.int .i64 ((n:Int)-1)) ((run_sub ..).trans (by rw [wK_ (by omega) (by omega)])) rfl ?_;refine vA_ (ι:=Nat×List UInt8) (λq=>[.int .i64 ((q.1:Int)-1),bb_ a_ 1 q.2]) (λq=>q.1<=n/\q.2++d_ v q.1=d_ v n) (λq=>q.1) (n,[]) ⟨Nat.le_refl _,rfl⟩ rfl (λq _=>by simp only [okL,okC,u3_ c_]) (λq q' _ _ h=>?_) (λq hq=>?_)
 .have h:=(List.cons.inj h).1;injection h with _ h
  omega
 obtain ⟨r,o⟩:=q;obtain ⟨hr,he⟩:=hq;have hr:r<=n:=hr;have he:o++d_ v r=d_ v n:=he;refine wt_ (run_geq ..) rfl (v8_ rfl (λh=>?_) (λh=>vz_ ?_));have h:(0:Int)<=(r:Int)-1:=of_decide_eq_true h;obtain ⟨r,rfl⟩:∃r',r=r'+1:=⟨r-1,by omega⟩;have hl:=congrArg List.length he;rw [List.length_append,b_,b_]at hl;have h0:0<=(v/((256^r:Nat):Int))%256:=Int.emod_nonneg _ (by decide);have h1:(v/((256^r:Nat):Int))%256<256:=Int.emod_lt_of_pos _ (by decide);have e1:(((r+1:Nat):Int)-1)=(r:Int):=(by omega);refine wt_ (r:=.int .i64 (8*(r:Int))) ?_ rfl (wt_ (zt_ _ _ _ _ v (i:=r) (by omega)) rfl (wt_ (r:=.int .u8 ((UInt8.ofNat ((v/((256^r:Nat):Int))%256).toNat).toNat:Int)) ?_ rfl (wt_ (uZ_ ev_ (by decide) (by decide) o (UInt8.ofNat ((v/((256^r:Nat):Int))%256).toNat) (by omega)) (u3_ c_ _) (wt_ (run_sub ..) rfl (vm_ rfl ⟨(r,o++[UInt8.ofNat ((v/((256^r:Nat):Int))%256).toNat]),⟨?_,?_⟩,?_,?_⟩)))));show (XOp.bin .mul 3 true false).run Tryz.prog [.int .i64 8,.int .i64 (((r+1:Nat):Int)-1)]=_;rw [run_mul,e1,wK_ (by omega) (by omega)];rw [h4_ h0 h1];exact ur_ Tryz.underlying2 Tryz.underlying5 _;show r<=n;omega;show (o++[_])++d_ v r=d_ v n;rw [←he,List.append_assoc];rfl;show [AV.int .i64 (IntKind.i64.wrap ((((r+1:Nat):Int)-1)-1)),bb_ a_ 1 _]=[AV.int .i64 ((r:Int)-1),bb_ a_ 1 _];rw [wK_ (by omega) (by omega),e1];show r<r+1;omega;have h:¬(0:Int)<=(r:Int)-1:=of_decide_eq_false h;have:r=0:=(by omega);subst this;have:o=d_ v n:=(by rw [←he];simp [d_]);subst this;rfl
structure SB where
 l:List UInt8
 x:AV
def bg_ (s:SB):List AV:=[s.x]
theorem AG_ (s:SB):(bg_ s).length=1:=rfl
def cat (ss:List SB):List UInt8:=ss.flatMap SB.l
theorem uH_ (ss:List SB) {i:Nat} (h:i<ss.length):cat (ss.take (i+1))=cat (ss.take i)++ss[i].l:=by show (ss.take (i+1)).flatMap SB.l=(ss.take i).flatMap SB.l++ss[i].l;rw [←List.take_append_getElem h,List.flatMap_append];show _++(ss[i].l++[])=_;rw [List.append_nil]
theorem w9_ (ss:List SB) (i:Nat):(cat (ss.take i)).length<=(cat ss).length:=by
 have:cat ss=cat (ss.take i)++cat (ss.drop i):=by unfold cat;rw [←List.flatMap_append,List.take_append_drop]
 rw [this,List.length_append];omega
theorem AI_ {ss:List SB} (h:∀s∈ss,By s.l s.x):okL (a9_ bg_ ss)=true:=by
 induction ss with
 |nil=>rfl
 |cons s r ih=>exact lm_.okL_join (by show okL [s.x]=true;simp only [okL,(h s (List.mem_cons_self ..)).ok c_]) (ih λt ht=>h t (List.mem_cons_of_mem _ ht))
theorem z4_ {ss:List SB} (h:∀s∈ss,By s.l s.x) (i:Nat):okC (.vptr (a9_ bg_ (ss.drop i)))=true:=AI_ λs hs=>h s (List.mem_of_mem_drop hs)
theorem yG_ (ss:List SB):(XOp.len 98).run Tryz.prog [jW_ bg_ 1 ss]=some (.int .i64 (ss.length:Int)):=(SlV.v (enc:=bg_) (w:=1) ss).len Tryz.underlying98
theorem zV_ {ss:List SB} {i:Nat} (hi:i<ss.length):(XOp.iaddr 98).run Tryz.prog [jW_ bg_ 1 ss,.int .i64 (i:Int)]=some (.vptr (a9_ bg_ (ss.drop i))):=(SlV.v (enc:=bg_) (w:=1) ss).ia (e:=22) Tryz.underlying98 (ti:=(Tryz.prog.info? 22).get!) (by kernel_rfl) (by kernel_rfl) AG_ hi .i64
theorem zX_ {ss:List SB} {i:Nat} (hi:i<ss.length):(XOp.load 22).run Tryz.prog [.vptr (a9_ bg_ (ss.drop i))]=some ss[i].x:=by rw [List.drop_eq_getElem_cons hi];exact tG_ Tryz.underlying22 rfl _ _
theorem yR_ {n:Nat} (h0:0<n) (h:n<=1000000):(XOp.mkz 1 1 [.int .u8 0]).run Tryz.prog [.int .i64 (n:Int)]=some (jW_ a_ 1 (List.replicate n 0)):=by
 show (match Nat.blt 0 1&&(Nat.blt 0 1&&(Nat.blt 0 n&&(Nat.ble (Nat.mul n 1) 1073741824&&Nat.ble n 1073741824)))with
  |true=>some (AV.vsl n 1 (ax_ [.int .u8 0] n))
  |false=>none)=_
 have e:(Nat.blt 0 1&&(Nat.blt 0 1&&(Nat.blt 0 n&&(Nat.ble (Nat.mul n 1) 1073741824&&Nat.ble n 1073741824))))=true:=by rw [show Nat.mul n 1=n from Nat.mul_one n,Nat.ble_eq_true_of_le (by omega:n<=1073741824),show Nat.blt 0 n=true from Nat.ble_eq_true_of_le h0];rfl
 rw [e];show some (AV.vsl n 1 _)=_;rw [xW_];unfold jW_;rw [List.length_replicate]
theorem zs_ (m:List UInt8):XOp.tkx.run Tryz.prog [jW_ a_ 1 m,jW_ a_ 1 m,.int .i64 0]=some (jW_ a_ 1 []):=by
 show (match Nat.beq 1 1&&(Nat.ble 0 m.length&&Nat.ble 0 m.length)with
  |true=>match aX_ (Nat.mul 0 1) (a9_ a_ m)with
   |some cs'=>some (AV.vsl 0 1 cs')
   |none=>none
  |false=>none)=_
 rw [Nat.ble_eq_true_of_le (Nat.zero_le _)];rfl
theorem p22 (ss:List SB) (h:∀s∈ss,By s.l s.x) (hn:ss.length<=1000) (hl:(cat ss).length<=1000000):iu_ Tryz.prog 22 [jW_ bg_ 1 ss] (bb_ a_ 1 (cat ss)):=by
 have hx:okC (jW_ bg_ 1 ss)=true:=AI_ h;refine uW_ (sh:=[none]) (ls:=[jW_ bg_ 1 ss]) (c:=c22) (n:=300) (t:=t22) mo ov rfl (by simp only [okL,hx]) (qB_ (u3_ c_ _)) (λY _=>wB_ _) rfl (by kernel_rfl) λY hf hg=>?_;unfold t22;refine wt_ (yG_ ss) rfl ?_;refine vA_ (ι:=Nat) (λi=>[.int .i64 (i:Int),.int .i64 ((cat (ss.take i)).length:Int)]) (λi=>i<=ss.length) (λi=>ss.length-i) 0 (Nat.zero_le _) rfl (λ_ _=>rfl) (λi j _ _ h=>?_) (λi hi=>?_)
 .have h:=(List.cons.inj h).1;injection h with _ h
  omega
 have hci:=w9_ ss i;refine wt_ (run_lss ..) rfl (v8_ rfl (λhlt=>?_) (λhlt=>?_));have hlt:(i:Int)<(ss.length:Int):=of_decide_eq_true hlt;have hlt:i<ss.length:=(by omega);have hb:=h ss[i] (List.getElem_mem hlt);have hc:=w9_ ss (i+1);have e:(cat (ss.take (i+1))).length=(cat (ss.take i)).length+ss[i].l.length:=(by rw [uH_ ss hlt,List.length_append]);refine wt_ (zV_ hlt) (z4_ h i) (wt_ (zX_ hlt) (hb.ok c_) (wt_ (l_ hb) rfl (wt_ (r:=.int .i64 ((cat (ss.take (i+1))).length:Int)) ?_ rfl (wt_ (run_lss ..) rfl (v8_ rfl (λhc=>?_) (λ_=>wt_ (run_add ..) rfl (vm_ rfl ⟨i+1,hlt,?_,?_⟩)))))));refine (run_add ..).trans ?_;rw [wK_ (by omega) (by omega),e];rfl;have hc:((cat (ss.take (i+1))).length:Int)<0:=of_decide_eq_true hc;omega;show [AV.int .i64 (IntKind.i64.wrap ((i:Int)+1)),AV.int .i64 _]=[AV.int .i64 ((i+1:Nat):Int),AV.int .i64 _];rw [bq_ (by omega)];omega;have hlt:¬(i:Int)<(ss.length:Int):=of_decide_eq_false hlt;have ei:ss.take i=ss:=List.take_of_length_le (by omega);rw [ei];refine wt_ (run_lss ..) rfl (v8_ rfl (λhc=>?_) (λ_=>?_));have hc:((cat ss).length:Int)<0:=of_decide_eq_true hc;omega;refine wt_ (r:=.int .i64 ((cat ss).length:Int)) ((run_sub ..).trans (by rw [wK_ (by omega) (by omega),Int.sub_zero])) rfl (wt_ (run_gtr ..) rfl (v8_ rfl (λhc=>?_) (λhc=>?_)))
 .have hc:(0:Int)<((cat ss).length:Int):=of_decide_eq_true hc;have hne:cat ss≠[]:=λe=>(by rw [e]at hc;simp at hc);refine wt_ (yR_ (n:=(cat ss).length) (by omega) hl) (sQ_ c_ _) (wt_ (zs_ _) rfl (wt_ (yG_ ss) rfl ?_));refine vA_ (ι:=Nat) (λi=>[.int .i64 (i:Int),jW_ a_ 1 (cat (ss.take i)),.int .i64 (ss.length:Int)]) (λi=>i<=ss.length) (λi=>ss.length-i) 0 (Nat.zero_le _) rfl (λ_ _=>by simp only [okL,okC,sQ_ c_]) (λi j _ _ h=>?_) (λi hi=>?_)
  .have h:=(List.cons.inj h).1;injection h with _ h
   omega
  refine wt_ (run_lss ..) rfl (v8_ rfl (λhlt=>?_) (λhlt=>vz_ ?_));have hlt:(i:Int)<(ss.length:Int):=of_decide_eq_true hlt;have hlt:i<ss.length:=(by omega);have hb:=h ss[i] (List.getElem_mem hlt);have hc:=w9_ ss (i+1);rw [uH_ ss hlt,List.length_append]at hc;refine wt_ (zV_ hlt) (z4_ h i) (wt_ (zX_ hlt) (hb.ok c_) (wt_ (K_ hb _ (by omega)) (sQ_ c_ _) (wt_ (run_add ..) rfl (vm_ rfl ⟨i+1,hlt,?_,?_⟩))));show [AV.int .i64 (IntKind.i64.wrap ((i:Int)+1)),jW_ a_ 1 (cat (ss.take i)++ss[i].l),AV.int .i64 (ss.length:Int)]=[AV.int .i64 ((i+1:Nat):Int),jW_ a_ 1 (cat (ss.take (i+1))),AV.int .i64 (ss.length:Int)];rw [bq_ (by omega),uH_ ss hlt];omega;have hlt:¬(i:Int)<(ss.length:Int):=of_decide_eq_false hlt;have ei:ss.take i=ss:=List.take_of_length_le (by omega);show jW_ a_ 1 (cat (ss.take i))=bb_ a_ 1 (cat ss);rw [ei,wT_ hne]
 .have hc:¬(0:Int)<((cat ss).length:Int):=of_decide_eq_false hc;have hne:cat ss=[]:=List.length_eq_zero_iff.1 (by omega);refine wt_ (yG_ ss) rfl ?_;refine vA_ (ι:=Nat) (λi=>[.int .i64 (i:Int),.nsl,.int .i64 (ss.length:Int)]) (λi=>i<=ss.length) (λi=>ss.length-i) 0 (Nat.zero_le _) rfl (λ_ _=>rfl) (λi j _ _ h=>?_) (λi hi=>?_)
  .have h:=(List.cons.inj h).1;injection h with _ h
   omega
  refine wt_ (run_lss ..) rfl (v8_ rfl (λhlt=>?_) (λhlt=>vz_ (by rw [hne];rfl)));have hlt:(i:Int)<(ss.length:Int):=of_decide_eq_true hlt;have hlt:i<ss.length:=(by omega);have hb:=h ss[i] (List.getElem_mem hlt);have hz:ss[i].l=[]:=(by have hc:=w9_ ss (i+1);rw [uH_ ss hlt,List.length_append]at hc;have h0:(cat ss).length=0:=(by rw [hne];rfl);exact List.length_eq_zero_iff.1 (by omega));have:=Ak_ hb [] (by rw [hz];simp);rw [hz]at this;refine wt_ (zV_ hlt) (z4_ h i) (wt_ (zX_ hlt) (hb.ok c_) (wt_ this rfl (wt_ (run_add ..) rfl (vm_ rfl ⟨i+1,hlt,?_,?_⟩))));show [AV.int .i64 (IntKind.i64.wrap ((i:Int)+1)),AV.nsl,AV.int .i64 (ss.length:Int)]=[AV.int .i64 ((i+1:Nat):Int),AV.nsl,AV.int .i64 (ss.length:Int)];rw [bq_ (by omega)];omega
def c72:VC:=⟨⟨[],[]⟩,[],[],0,true,[]⟩
def t72:VT:=It U8 [64,64] 65 (.done (.int .u64 9221120237041090561))<|Li (.ext 118) [64] 66<|.done (66)
def c61:VC:=⟨⟨[],[]⟩,[],[],0,true,[]⟩
def t61:VT:=Li (.ext 103) [64] 65<|.done (65)
def c70:VC:=⟨⟨[],[]⟩,[],[(0,[⟨[(5,.slx 0 0 0),(0,64),(4,.slx 0 1 1)],[],1,2,[⟨0,1,1,4,none⟩],[],[]⟩])],0,true,[]⟩
def t70:VT:=Li Qp [65,J 1] 66<|.loop 67 0 [66,.nsl] (.cons 2 (It Qn [67,J 0] 69 (Li Zj [J 8,67] 70<|Li (.bin .shr 74 false false) [64,70] 71<|Li Q1 [71] 72<|Li Qb [68,.agg [72]] 73<|Li Qp [67,J 1] 74<|.again 0 0 [74,73])<|.done (68)) .nil)
def c71:VC:=⟨⟨[],[]⟩,[(72,[none]),(70,[none]),(116,[none])],[],0,true,[]⟩
def t71:VT:=Iq 64 5 67 (.call 72 [66] 68 [none]<|.call 116 [64] 69 [none]<|.call 70 [68,69] 70 [none]<|.done (70))<|Li Qr [65] 68<|.call 116 [64] 69 [none]<|.call 70 [68,69] 70 [none]<|.done (70)
def Al_:VC:=⟨⟨[],[]⟩,[(72,[none]),(71,[none])],[],0,true,[]⟩
def zH_:VT:=.call 72 [.flt .f64 0] 65 [none]<|It Zb [65,.int .u64 0] 66 (.done (.nsl))<|It Qk [64,J 0] 67 (.call 71 [.agg [J 1,64,.flt .f64 0]] 68 [none]<|Li Qb [.vsl 7 1 [.int .u8 0,.int .u8 1,.int .u8 1,.int .u8 1,.int .u8 0,.int .u8 0,.int .u8 0],68] 69<|.done (69))<|Li Qk [64,J 1] 68<|It Qa [68] 69 (.done (.nsl))<|.call 71 [.agg [J 1,64,.flt .f64 0]] 70 [none]<|Li Qb [.vsl 7 1 [.int .u8 0,.int .u8 1,.int .u8 1,.int .u8 1,.int .u8 0,.int .u8 0,.int .u8 0],70] 71<|.done (71)
def Am_:VC:=⟨⟨[],[]⟩,[(72,[none]),(71,[none])],[],0,true,[]⟩
def zI_:VT:=.call 72 [.flt .f64 0] 65 [none]<|It Zb [65,.int .u64 0] 66 (.done (.nsl))<|Li Zk [64] 67<|Li Zl [67] 68<|Li Qs [64,68] 69<|It Qa [69] 70 (.done (.nsl))<|.call 71 [.agg [J 2,64,.flt .f64 0]] 71 [none]<|Li Qb [.vsl 7 1 [.int .u8 0,.int .u8 1,.int .u8 1,.int .u8 2,.int .u8 0,.int .u8 0,.int .u8 0],71] 72<|.done (72)
def An_:VC:=⟨⟨[],[]⟩,[(72,[none]),(71,[none])],[],0,true,[]⟩
def zJ_:VT:=.call 72 [.flt .f64 0] 65 [none]<|It Zb [65,.int .u64 0] 66 (.done (.nsl))<|Li Zm [64] 67<|Li Zn [67] 68<|Li Qs [64,68] 69<|It Qa [69] 70 (.done (.nsl))<|.call 71 [.agg [J 3,64,.flt .f64 0]] 71 [none]<|Li Qb [.vsl 7 1 [.int .u8 0,.int .u8 1,.int .u8 1,.int .u8 3,.int .u8 0,.int .u8 0,.int .u8 0],71] 72<|.done (72)
def Ao_:VC:=⟨⟨[],[]⟩,[(72,[none]),(71,[none])],[],0,true,[]⟩
def zK_:VT:=.call 71 [.agg [J 4,64,.flt .f64 0]] 65 [none]<|Li Qb [.vsl 7 1 [.int .u8 0,.int .u8 1,.int .u8 1,.int .u8 4,.int .u8 0,.int .u8 0,.int .u8 0],65] 66<|.done (66)
def Ap_:VC:=⟨⟨[],[]⟩,[(72,[none]),(71,[none])],[],0,true,[]⟩
def zL_:VT:=.call 71 [.agg [J 5,J 0,64]] 65 [none]<|Li Qb [.vsl 7 1 [.int .u8 0,.int .u8 1,.int .u8 1,.int .u8 5,.int .u8 0,.int .u8 0,.int .u8 0],65] 66<|.done (66)
def c24:VC:=⟨⟨[],[]⟩,[(40,[none]),(22,[none])],[],0,true,[]⟩
def t24:VT:=.call 40 [.vsl 1 7 [J 1,64,J 0,J 0,64,65,66]] 67 [none]<|Li Qc [67] 68<|It Qi [68,J 7] 69 (.done (.nsl))<|Li Qh [64] 70<|Li Zi [67,J 7] 71<|.call 22 [.vsl 2 1 [.vsl 1 1 [70],71]] 72 [none]<|.done (72)
def n_:Option Nat->Nat
 |none=>9221120237041090561
 |some n=>if nan n=true then 9221120237041090561 else n
def z_ (o:Option Nat):Int:=(n_ o:Int)
theorem xM_ (n:Nat):(XOp.ext 118).run Tryz.prog [.flt .f64 n]=some (.int .u64 (n:Int)):=by kernel_rfl
theorem yw_ (n:Nat):(XOp.ext 103).run Tryz.prog [.int .u64 (n:Int)]=some (.flt .f64 n):=by kernel_rfl
theorem p72 (o:Option Nat):iu_ Tryz.prog 72 [fv o] (.int .u64 (z_ o)):=by
 refine uW_ (sh:=[none]) (ls:=[fv o]) (c:=c72) (n:=300) (t:=t72) mo ov rfl (by simp only [okL,wO_]) rfl (λY _=>wB_ _) rfl (by kernel_rfl) λY hf hg=>?_;unfold t72;cases o with
 |none=>exact wt_ (r:=.bool true) (by kernel_rfl) rfl (v8_ (t:=true) rfl (λ_=>vz_ rfl) (λh=>by cases h))
 |some n=>refine wt_ (vu_ ..) rfl (v8_ rfl (λh=>vz_ ?_) (λh=>wt_ (xM_ n) rfl (vz_ ?_)));have h:nan n=true:=h;show AV.int .u64 9221120237041090561=AV.int .u64 ((n_ (some n):Nat):Int);rw [show n_ (some n)=9221120237041090561 from if_pos h];rfl;have h:nan n=false:=h;show AV.int .u64 (n:Int)=AV.int .u64 ((n_ (some n):Nat):Int);rw [show n_ (some n)=n from if_neg (by rw [h];exact Bool.false_ne_true)]
def cP (v:FV):PV:=⟨v.k.toNat,v.i,n_ v.f⟩
theorem xz_ (o:Option Nat):(if nan (n_ o)then 9221120237041090561 else (n_ o:Int))=z_ o:=by
 unfold z_;cases o with
 |none=>decide
 |some n=>by_cases h:nan n=true;rw [show n_ (some n)=9221120237041090561 from if_pos h];decide;rw [show n_ (some n)=n from if_neg h,if_neg h]
theorem xX_ {v:FV} (h:v.k=5):p_ (cP v)=z_ v.f:=by show (if v.k.toNat=5 then _ else _)=_;rw [if_pos (by rw [h];rfl)];exact xz_ v.f
theorem zB_ {v:FV} (h0:0<=v.k) (h:v.k≠5):p_ (cP v)=v.i:=if_neg (show ¬v.k.toNat=5 by omega)
theorem p61 (n:Nat):iu_ Tryz.prog 61 [.int .u64 (n:Int)] (.flt .f64 n):=by refine uW_ (sh:=[none]) (ls:=[.int .u64 (n:Int)]) (c:=c61) (n:=300) (t:=t61) mo ov rfl rfl rfl (λY _=>wB_ _) rfl (by kernel_rfl) λY hf hg=>?_;unfold t61;exact wt_ (yw_ n) rfl (vz_ rfl)
theorem yU_ (P:Program) (t:TypeId) (cx cy:Bool) (v:Int) {i:Nat} (hi:i<=7):(XOp.bin .shr t cx cy).run P [.int .u64 v,.int .i64 (8*(i:Int))]=some (.int .u64 (v/((256^i:Nat):Int))):=by rcases (by omega:i=0\/i=1\/i=2\/i=3\/i=4\/i=5\/i=6\/i=7)with rfl|rfl|rfl|rfl|rfl|rfl|rfl|rfl;exact (show (XOp.bin .shr t cx cy).run P [.int .u64 v,.int .i64 0]=some (.int .u64 (v.fdiv 1)) by kernel_rfl).trans (by rw [Int.fdiv_eq_ediv_of_nonneg _ (by decide)];rfl);exact (show (XOp.bin .shr t cx cy).run P [.int .u64 v,.int .i64 8]=some (.int .u64 (v.fdiv 256)) by kernel_rfl).trans (by rw [Int.fdiv_eq_ediv_of_nonneg _ (by decide)];rfl);exact (show (XOp.bin .shr t cx cy).run P [.int .u64 v,.int .i64 16]=some (.int .u64 (v.fdiv 65536)) by kernel_rfl).trans (by rw [Int.fdiv_eq_ediv_of_nonneg _ (by decide)];rfl);exact (show (XOp.bin .shr t cx cy).run P [.int .u64 v,.int .i64 24]=some (.int .u64 (v.fdiv 16777216)) by kernel_rfl).trans (by rw [Int.fdiv_eq_ediv_of_nonneg _ (by decide)];rfl);exact (show (XOp.bin .shr t cx cy).run P [.int .u64 v,.int .i64 32]=some (.int .u64 (v.fdiv 4294967296)) by kernel_rfl).trans (by rw [Int.fdiv_eq_ediv_of_nonneg _ (by decide)];rfl);exact (show (XOp.bin .shr t cx cy).run P [.int .u64 v,.int .i64 40]=some (.int .u64 (v.fdiv 1099511627776)) by kernel_rfl).trans (by rw [Int.fdiv_eq_ediv_of_nonneg _ (by decide)];rfl);exact (show (XOp.bin .shr t cx cy).run P [.int .u64 v,.int .i64 48]=some (.int .u64 (v.fdiv 281474976710656)) by kernel_rfl).trans (by rw [Int.fdiv_eq_ediv_of_nonneg _ (by decide)];rfl);exact (show (XOp.bin .shr t cx cy).run P [.int .u64 v,.int .i64 56]=some (.int .u64 (v.fdiv 72057594037927936)) by kernel_rfl).trans (by rw [Int.fdiv_eq_ediv_of_nonneg _ (by decide)];rfl)
theorem p70 (v:Int) {n:Nat} (hn:n<=8):iu_ Tryz.prog 70 [.int .u64 v,.int .i64 (n:Int)] (bb_ a_ 1 (d_ v n)):=by
 refine uW_ (sh:=[none,none]) (ls:=[.int .u64 v,.int .i64 (n:Int)]) (c:=c70) (n:=300) (t:=t70) mo ov rfl rfl (qB_ (u3_ c_ _)) (λY _=>wB_ _) rfl (by kernel_rfl) λY hf hg=>?_;unfold t70;refine wt_ (r:=.int .i64 ((n:Int)-1)) ((run_sub ..).trans (by rw [wK_ (by omega) (by omega)])) rfl ?_;refine vA_ (ι:=Nat×List UInt8) (λq=>[.int .i64 ((q.1:Int)-1),bb_ a_ 1 q.2]) (λq=>q.1<=n/\q.2++d_ v q.1=d_ v n) (λq=>q.1) (n,[]) ⟨Nat.le_refl _,rfl⟩ rfl (λq _=>by simp only [okL,okC,u3_ c_]) (λq q' _ _ h=>?_) (λq hq=>?_)
 .have h:=(List.cons.inj h).1;injection h with _ h
  omega
 obtain ⟨r,o⟩:=q;obtain ⟨hr,he⟩:=hq;have hr:r<=n:=hr;have he:o++d_ v r=d_ v n:=he;refine wt_ (run_geq ..) rfl (v8_ rfl (λh=>?_) (λh=>vz_ ?_));have h:(0:Int)<=(r:Int)-1:=of_decide_eq_true h;obtain ⟨r,rfl⟩:∃r',r=r'+1:=⟨r-1,by omega⟩;have hl:=congrArg List.length he;rw [List.length_append,b_,b_]at hl;have h0:0<=(v/((256^r:Nat):Int))%256:=Int.emod_nonneg _ (by decide);have h1:(v/((256^r:Nat):Int))%256<256:=Int.emod_lt_of_pos _ (by decide);have e1:(((r+1:Nat):Int)-1)=(r:Int):=(by omega);refine wt_ (r:=.int .i64 (8*(r:Int))) ?_ rfl (wt_ (yU_ _ _ _ _ v (i:=r) (by omega)) rfl (wt_ (r:=.int .u8 ((UInt8.ofNat ((v/((256^r:Nat):Int))%256).toNat).toNat:Int)) ?_ rfl (wt_ (uZ_ ev_ (by decide) (by decide) o (UInt8.ofNat ((v/((256^r:Nat):Int))%256).toNat) (by omega)) (u3_ c_ _) (wt_ (run_sub ..) rfl (vm_ rfl ⟨(r,o++[UInt8.ofNat ((v/((256^r:Nat):Int))%256).toNat]),⟨?_,?_⟩,?_,?_⟩)))));show (XOp.bin .mul 3 true false).run Tryz.prog [.int .i64 8,.int .i64 (((r+1:Nat):Int)-1)]=_;rw [run_mul,e1,wK_ (by omega) (by omega)];rw [h4_ h0 h1];exact ur_ Tryz.underlying74 Tryz.underlying5 _;show r<=n;omega;show (o++[_])++d_ v r=d_ v n;rw [←he,List.append_assoc];rfl;show [AV.int .i64 (IntKind.i64.wrap ((((r+1:Nat):Int)-1)-1)),bb_ a_ 1 _]=[AV.int .i64 ((r:Int)-1),bb_ a_ 1 _];rw [wK_ (by omega) (by omega),e1];show r<r+1;omega;have h:¬(0:Int)<=(r:Int)-1:=of_decide_eq_false h;have:r=0:=(by omega);subst this;have:o=d_ v n:=(by rw [←he];simp [d_]);subst this;rfl
theorem zb_ {x y:Int} {n:Nat} (h:x%((256^n:Nat):Int)=y%((256^n:Nat):Int)):d_ x n=d_ y n:=by have h1:=Y_ y n;have h2:=b_ y n;have:=oZ_ (d_ y n) x (x/((256^n:Nat):Int)) (by rw [h2,h1,←h,Int.mul_comm];exact (Int.emod_add_mul_ediv x _).symm);rw [h2]at this;exact this
theorem D_ (x:Int) {n:Nat} (hn:n<=8):d_ (IntKind.u64.wrap x) n=d_ x n:=by
 refine zb_ ?_;have e:IntKind.u64.wrap x=x%18446744073709551616:=by simp [IntKind.wrap,IntKind.bits,IntKind.signed]
 rw [e];refine Int.emod_emod_of_dvd x ?_;rcases (by omega:n=0\/n=1\/n=2\/n=3\/n=4\/n=5\/n=6\/n=7\/n=8)with rfl|rfl|rfl|rfl|rfl|rfl|rfl|rfl|rfl<;>decide
theorem Cg_ {k:Nat} (h:1<=k/\k<=5):iu_ Tryz.prog 116 [.int .i64 (k:Int)] (.int .i64 (t_ k:Int)):=by rcases (by omega:k=1\/k=2\/k=3\/k=4\/k=5)with rfl|rfl|rfl|rfl|rfl<;>exact we_ mo ov (n:=3000) (by kernel_rfl)
theorem nK_ (k:Nat):t_ k<=8:=by unfold t_;split<;>decide
theorem p71 {v:FV} (h:1<=v.k/\v.k<=5):iu_ Tryz.prog 71 [.agg (u_ v)] (bb_ a_ 1 (d_ (p_ (cP v)) (t_ v.k.toNat))):=by
 have hk:((v.k.toNat:Nat):Int)=v.k:=Int.toNat_of_nonneg (by omega);have h349:iu_ Tryz.prog 116 [.int .i64 v.k] (.int .i64 (t_ v.k.toNat:Int)):=by
  have:=Cg_ (k:=v.k.toNat) (by omega)
  rwa [hk]at this
 refine uW_ (sh:=[some 3]) (ls:=u_ v++[]) (c:=c71) (n:=300) (t:=t71) mo ov rfl (by simp only [List.append_nil,okV]) (qB_ (u3_ c_ _)) (λY _=>wB_ _) rfl (by kernel_rfl) λY hf hg=>?_;unfold t71;refine wt_ (run_eql ..) rfl (v8_ rfl (λh5=>?_) (λh5=>?_));have h5:v.k=5:=of_decide_eq_true h5;rw [xX_ h5];exact vy_ (p72 v.f) rfl rfl (vy_ h349 rfl rfl (vy_ (p70 _ (nK_ _)) rfl (by show okL [bb_ a_ 1 _]=true;simp only [okL,u3_ c_]) (vz_ rfl)));have h5:¬v.k=5:=of_decide_eq_false h5;rw [zB_ (by omega) h5];refine wt_ (ur_ Tryz.underlying2 Tryz.underlying74 _) rfl (vy_ h349 rfl rfl (vy_ (p70 _ (nK_ _)) rfl (by show okL [bb_ a_ 1 _]=true;simp only [okL,u3_ c_]) (vz_ ?_)));show bb_ a_ 1 (d_ (IntKind.u64.wrap v.i) (t_ v.k.toNat))=_;rw [D_ v.i (nK_ _)]
def c62:VC:=⟨⟨[],[]⟩,[(104,[none])],[],0,true,[]⟩
def t62:VT:=Iq 64 5 67 (Li Qk [65,J 0] 68<|.done (68))<|.call 104 [66] 68 [none]<|It Qa [68] 69 (.done (.bool false))<|Iq 64 1 70 (It Qk [65,J 0] 71 (.done (.bool true))<|Li Qk [65,J 1] 72<|.done (72))<|Iq 64 2 71 (Li Zk [65] 72<|Li Zl [72] 73<|Li Qs [65,73] 74<|.done (74))<|Iq 64 3 72 (Li Zm [65] 73<|Li Zn [73] 74<|Li Qs [65,74] 75<|.done (75))<|Li Q0 [64,J 4] 73<|.done (73)
def w16 (i:Int):Int:=IntKind.i64.wrap (IntKind.i16.wrap i)
def w32 (i:Int):Int:=IntKind.i64.wrap (IntKind.i32.wrap i)
theorem y4_ {i:Int} (h1: -32768<=i) (h2:i<=32767):w16 i=i:=by
 have e:IntKind.i16.wrap i=i:=by simp [IntKind.wrap,IntKind.bits,IntKind.signed];omega
 unfold w16;rw [e,wK_ (by omega) (by omega)]
theorem y5_ {i:Int} (h1: -2147483648<=i) (h2:i<=2147483647):w32 i=i:=by
 have e:IntKind.i32.wrap i=i:=by simp [IntKind.wrap,IntKind.bits,IntKind.signed];omega
 unfold w32;rw [e,wK_ (by omega) (by omega)]
def P_ (v:FV):Bool:=if v.k=5 then decide (v.i=0)else if n_ v.f=0 then (if v.k=1 then decide (v.i=0\/v.i=1)else if v.k=2 then decide (v.i=w16 v.i)else if v.k=3 then decide (v.i=w32 v.i)else decide (v.k=4))else false
theorem zy_ {o:Option Nat} (h:n_ o=0):o=some 0:=by
 cases o with
 |none=>cases h
 |some n=>by_cases hn:nan n=true;rw [show n_ (some n)=9221120237041090561 from if_pos hn]at h;cases h;rw [show n_ (some n)=n from if_neg hn]at h;rw [h]
def Vv (v:FV):Prop:=(v.k=1/\v.f=some 0/\(v.i=0\/v.i=1))\/(v.k=2/\v.f=some 0/\w16 v.i=v.i)\/(v.k=3/\v.f=some 0/\w32 v.i=v.i)\/(v.k=4/\v.f=some 0)\/(v.k=5/\v.i=0)
theorem Vv.of {v:FV} (h:P_ v=true):Vv v:=by unfold P_ at h;split at h;rename_i h5;exact .inr (.inr (.inr (.inr ⟨h5,of_decide_eq_true h⟩)));split at h;rename_i hb;have hb:=zy_ hb;split at h;rename_i hk;exact .inl ⟨hk,hb,of_decide_eq_true h⟩;split at h;rename_i hk;exact .inr (.inl ⟨hk,hb,(of_decide_eq_true h).symm⟩);split at h;rename_i hk;exact .inr (.inr (.inl ⟨hk,hb,(of_decide_eq_true h).symm⟩));exact .inr (.inr (.inr (.inl ⟨of_decide_eq_true h,hb⟩)));cases h
theorem Vv.k {v:FV} (h:Vv v):1<=v.k/\v.k<=5:=by rcases h with ⟨h,_⟩|⟨h,_⟩|⟨h,_⟩|⟨h,_⟩|⟨h,_⟩<;>omega
def wq_ (v:FV):List UInt8:=[0,1,1,UInt8.ofNat v.k.toNat,0,0,0]++d_ (p_ (cP v)) (t_ v.k.toNat)
theorem u1 (i:Int) (h:i=0\/i=1):iu_ Tryz.prog 40 [.vsl 1 7 [.int .i64 1,.int .i64 1,.int .i64 0,.int .i64 0,.int .i64 1,.int .i64 i,.flt .f64 0]] (jW_ a_ 1 (wq_ ⟨1,i,some 0⟩)):=by
 refine vV_ (args':=[.vsl 1 7 [.int .i64 1,.int .i64 1,.int .i64 0,.int .i64 0,.int .i64 1,.sym 64,.flt .f64 0]]) (ls:=[.int .i64 i]) (c:=Al_) (n:=300) (t:=zH_) mo ov rfl rfl rfl (qB_ (sQ_ c_ _)) (λY _=>rfl) (λY _=>wB_ _) rfl (by kernel_rfl) λY hf hg=>?_;have hl:([0,1,1,1,0,0,0]:List UInt8).length+(d_ (p_ (cP ⟨1,i,some 0⟩)) (t_ 1)).length<=1000000:=by rw [b_];decide
 have ap:=K_ (SlV.of (enc:=a_) (w:=1) (d_ (p_ (cP ⟨1,i,some 0⟩)) (t_ 1))) [0,1,1,1,0,0,0] hl;unfold zH_;refine vy_ (p72 (some 0)) rfl rfl (wt_ (run_neq ..) rfl (v8_ (t:=false) rfl (λh=>by cases h) (λ_=>?_)));refine wt_ (run_eql ..) rfl (v8_ rfl (λ_=>vy_ (p71 (v:=⟨1,i,some 0⟩) ⟨(by decide:(1:Int)<=1),(by decide:(1:Int)<=5)⟩) rfl (by show okL [bb_ a_ 1 _]=true;simp only [okL,u3_ c_]) (wt_ ap (sQ_ c_ _) (vz_ rfl))) (λh0=>?_));have h0:¬i=0:=of_decide_eq_false h0;have h1:i=1:=by omega
 refine wt_ (run_eql ..) rfl (wt_ (wl_ ..) rfl (v8_ rfl (λh=>?_) (λ_=>vy_ (p71 (v:=⟨1,i,some 0⟩) ⟨(by decide:(1:Int)<=1),(by decide:(1:Int)<=5)⟩) rfl (by show okL [bb_ a_ 1 _]=true;simp only [okL,u3_ c_]) (wt_ ap (sQ_ c_ _) (vz_ rfl)))));have h:(!decide (i=1))=true:=h;rw [decide_eq_true h1]at h;cases h
theorem u2 (i:Int) (h:w16 i=i):iu_ Tryz.prog 40 [.vsl 1 7 [.int .i64 1,.int .i64 2,.int .i64 0,.int .i64 0,.int .i64 2,.int .i64 i,.flt .f64 0]] (jW_ a_ 1 (wq_ ⟨2,i,some 0⟩)):=by
 refine vV_ (args':=[.vsl 1 7 [.int .i64 1,.int .i64 2,.int .i64 0,.int .i64 0,.int .i64 2,.sym 64,.flt .f64 0]]) (ls:=[.int .i64 i]) (c:=Am_) (n:=300) (t:=zI_) mo ov rfl rfl rfl (qB_ (sQ_ c_ _)) (λY _=>rfl) (λY _=>wB_ _) rfl (by kernel_rfl) λY hf hg=>?_;have hl:([0,1,1,2,0,0,0]:List UInt8).length+(d_ (p_ (cP ⟨2,i,some 0⟩)) (t_ 2)).length<=1000000:=by rw [b_];decide
 have ap:=K_ (SlV.of (enc:=a_) (w:=1) (d_ (p_ (cP ⟨2,i,some 0⟩)) (t_ 2))) [0,1,1,2,0,0,0] hl;unfold zI_;refine vy_ (p72 (some 0)) rfl rfl (wt_ (run_neq ..) rfl (v8_ (t:=false) rfl (λh=>by cases h) (λ_=>?_)));refine wt_ (ur_ Tryz.underlying2 Tryz.underlying128 _) rfl (wt_ (ur_ Tryz.underlying128 Tryz.underlying2 _) rfl (wt_ (run_eql ..) rfl (wt_ (wl_ ..) rfl (v8_ rfl (λh2=>?_) (λ_=>vy_ (p71 (v:=⟨2,i,some 0⟩) ⟨(by decide:(1:Int)<=2),(by decide:(2:Int)<=5)⟩) rfl (by show okL [bb_ a_ 1 _]=true;simp only [okL,u3_ c_]) (wt_ ap (sQ_ c_ _) (vz_ rfl)))))));have h2:(!decide (i=w16 i))=true:=h2;rw [h,decide_eq_true rfl]at h2;cases h2
theorem u3 (i:Int) (h:w32 i=i):iu_ Tryz.prog 40 [.vsl 1 7 [.int .i64 1,.int .i64 3,.int .i64 0,.int .i64 0,.int .i64 3,.int .i64 i,.flt .f64 0]] (jW_ a_ 1 (wq_ ⟨3,i,some 0⟩)):=by
 refine vV_ (args':=[.vsl 1 7 [.int .i64 1,.int .i64 3,.int .i64 0,.int .i64 0,.int .i64 3,.sym 64,.flt .f64 0]]) (ls:=[.int .i64 i]) (c:=An_) (n:=300) (t:=zJ_) mo ov rfl rfl rfl (qB_ (sQ_ c_ _)) (λY _=>rfl) (λY _=>wB_ _) rfl (by kernel_rfl) λY hf hg=>?_;have hl:([0,1,1,3,0,0,0]:List UInt8).length+(d_ (p_ (cP ⟨3,i,some 0⟩)) (t_ 3)).length<=1000000:=by rw [b_];decide
 have ap:=K_ (SlV.of (enc:=a_) (w:=1) (d_ (p_ (cP ⟨3,i,some 0⟩)) (t_ 3))) [0,1,1,3,0,0,0] hl;unfold zJ_;refine vy_ (p72 (some 0)) rfl rfl (wt_ (run_neq ..) rfl (v8_ (t:=false) rfl (λh=>by cases h) (λ_=>?_)));refine wt_ (ur_ Tryz.underlying2 Tryz.underlying21 _) rfl (wt_ (ur_ Tryz.underlying21 Tryz.underlying2 _) rfl (wt_ (run_eql ..) rfl (wt_ (wl_ ..) rfl (v8_ rfl (λh2=>?_) (λ_=>vy_ (p71 (v:=⟨3,i,some 0⟩) ⟨(by decide:(1:Int)<=3),(by decide:(3:Int)<=5)⟩) rfl (by show okL [bb_ a_ 1 _]=true;simp only [okL,u3_ c_]) (wt_ ap (sQ_ c_ _) (vz_ rfl)))))));have h2:(!decide (i=w32 i))=true:=h2;rw [h,decide_eq_true rfl]at h2;cases h2
theorem u4 (i:Int):iu_ Tryz.prog 40 [.vsl 1 7 [.int .i64 1,.int .i64 4,.int .i64 0,.int .i64 0,.int .i64 4,.int .i64 i,.flt .f64 0]] (jW_ a_ 1 (wq_ ⟨4,i,some 0⟩)):=by
 refine vV_ (args':=[.vsl 1 7 [.int .i64 1,.int .i64 4,.int .i64 0,.int .i64 0,.int .i64 4,.sym 64,.flt .f64 0]]) (ls:=[.int .i64 i]) (c:=Ao_) (n:=300) (t:=zK_) mo ov rfl rfl rfl (qB_ (sQ_ c_ _)) (λY _=>rfl) (λY _=>wB_ _) rfl (by kernel_rfl) λY hf hg=>?_;have hl:([0,1,1,4,0,0,0]:List UInt8).length+(d_ (p_ (cP ⟨4,i,some 0⟩)) (t_ 4)).length<=1000000:=by rw [b_];decide
 have ap:=K_ (SlV.of (enc:=a_) (w:=1) (d_ (p_ (cP ⟨4,i,some 0⟩)) (t_ 4))) [0,1,1,4,0,0,0] hl;unfold zK_;exact vy_ (p71 (v:=⟨4,i,some 0⟩) ⟨(by decide:(1:Int)<=4),(by decide:(4:Int)<=5)⟩) rfl (by show okL [bb_ a_ 1 _]=true;simp only [okL,u3_ c_]) (wt_ ap (sQ_ c_ _) (vz_ rfl))
theorem u5 (f:Option Nat):iu_ Tryz.prog 40 [.vsl 1 7 [.int .i64 1,.int .i64 5,.int .i64 0,.int .i64 0,.int .i64 5,.int .i64 0,fv f]] (jW_ a_ 1 (wq_ ⟨5,0,f⟩)):=by
 refine vV_ (args':=[.vsl 1 7 [.int .i64 1,.int .i64 5,.int .i64 0,.int .i64 0,.int .i64 5,.int .i64 0,.sym 64]]) (ls:=[fv f]) (c:=Ap_) (n:=300) (t:=zL_) mo ov (by cases f<;>rfl) rfl (by simp only [okL,wO_]) (qB_ (sQ_ c_ _)) (λY _=>rfl) (λY _=>wB_ _) rfl (by kernel_rfl) λY hf hg=>?_;have hl:([0,1,1,5,0,0,0]:List UInt8).length+(d_ (p_ (cP ⟨5,0,f⟩)) (t_ 5)).length<=1000000:=by rw [b_];decide
 have ap:=K_ (SlV.of (enc:=a_) (w:=1) (d_ (p_ (cP ⟨5,0,f⟩)) (t_ 5))) [0,1,1,5,0,0,0] hl;unfold zL_;exact vy_ (p71 (v:=⟨5,0,f⟩) ⟨(by decide:(1:Int)<=5),(by decide:(5:Int)<=5)⟩) rfl (by show okL [bb_ a_ 1 _]=true;simp only [okL,u3_ c_]) (wt_ ap (sQ_ c_ _) (vz_ rfl))
theorem p40 {v:FV} (h:Vv v):iu_ Tryz.prog 40 [.vsl 1 7 [.int .i64 1,.int .i64 v.k,.int .i64 0,.int .i64 0,.int .i64 v.k,.int .i64 v.i,fv v.f]] (jW_ a_ 1 (wq_ v)):=by
 obtain ⟨k,i,f⟩:=v;rcases h with ⟨h1,h2,h3⟩|⟨h1,h2,h3⟩|⟨h1,h2,h3⟩|⟨h1,h2⟩|⟨h1,h2⟩<;>simp only at h1 h2<;>subst h1 h2
 exact u1 i h3;exact u2 i h3;exact u3 i h3;exact u4 i;exact u5 f
theorem p24 {v:FV} (h:Vv v):iu_ Tryz.prog 24 [.agg (u_ v)] (bb_ a_ 1 (w_ (cP v))):=by
 have hk:=h.k;refine uW_ (sh:=[some 3]) (ls:=u_ v++[]) (c:=c24) (n:=300) (t:=t24) mo ov rfl (by simp only [List.append_nil,okV]) (qB_ (u3_ c_ _)) (λY _=>wB_ _) rfl (by kernel_rfl) λY hf hg=>?_;have hB:By (wq_ v) (jW_ a_ 1 (wq_ v)):=SlV.v _;have hlen:(wq_ v).length=7+t_ v.k.toNat:=by unfold wq_;rw [List.length_append,b_];rfl
 have hw:=nK_ v.k.toNat;obtain ⟨r,e1,hr⟩:=AT_ hB (n:=7) (by omega);have hd:(wq_ v).drop 7=d_ (p_ (cP v)) (t_ v.k.toNat):=l4_ rfl;rw [hd]at hr;unfold t24;refine vy_ (p40 h) rfl (by show okL [jW_ a_ 1 _]=true;simp only [okL,sQ_ c_]) (wt_ (l_ hB) rfl (wt_ (run_lss ..) rfl (v8_ rfl (λh7=>?_) (λ_=>?_))));have h7:((wq_ v).length:Int)<7:=of_decide_eq_true h7;omega;have e2:(XOp.conv 3 5).run Tryz.prog [.int .i64 v.k]=some (.int .u8 ((UInt8.ofNat v.k.toNat).toNat:Int)):=by have:IntKind.u8.wrap v.k=v.k:=(by simp [IntKind.wrap,IntKind.bits,IntKind.signed];omega);rw [ur_ Tryz.underlying3 Tryz.underlying5,ps_ (by omega),this];rw [Int.toNat_of_nonneg (by omega)]
 have hc:=p22 [⟨[UInt8.ofNat v.k.toNat],jW_ a_ 1 [UInt8.ofNat v.k.toNat]⟩,⟨d_ (p_ (cP v)) (t_ v.k.toNat),r⟩] (λs hs=>by
  rcases List.mem_cons.1 hs with rfl|hs;exact SlV.v _
  .rcases List.mem_cons.1 hs with rfl|hs;exact hr
   .cases hs) (by show 2<=1000;decide) (by
  show ([UInt8.ofNat v.k.toNat]++(d_ (p_ (cP v)) (t_ v.k.toNat)++[])).length<=1000000;simp only [List.length_append,b_,List.length_cons,List.length_nil];omega)
 have ec:cat [⟨[UInt8.ofNat v.k.toNat],jW_ a_ 1 [UInt8.ofNat v.k.toNat]⟩,⟨d_ (p_ (cP v)) (t_ v.k.toNat),r⟩]=w_ (cP v):=by show [UInt8.ofNat v.k.toNat]++(d_ (p_ (cP v)) (t_ v.k.toNat)++[])=_;rw [List.append_nil];rfl
 rw [ec]at hc;exact wt_ e2 rfl (wt_ e1 (hr.ok c_) (vy_ hc rfl (by show okL [bb_ a_ 1 _]=true;simp only [okL,u3_ c_]) (vz_ rfl)))
def BG_:VC:=⟨⟨[],[]⟩,[],[],0,true,[]⟩
def AX_:VT:=It (.bin .eql 25 false true) [64,.flt .f64 0] 65 (Li (.bin .quo 25 true false) [.flt .f64 4607182418800017408,64] 66<|Li (.bin .gtr 25 false true) [66,.flt .f64 0] 67<|.done (67))<|.done (.bool false)
theorem zO_ {n:Nat}:n_ (some n)=0↔n=0:=⟨λh=>by have:=zy_ h;injection this,λh=>by rw [h];decide⟩
theorem Cf_ (o:Option Nat) (hn:∀n,o=some n->n<18446744073709551616):iu_ Tryz.prog 104 [fv o] (.bool (decide (n_ o=0))):=by
 refine uW_ (sh:=[none]) (ls:=[fv o]) (c:=BG_) (n:=300) (t:=AX_) mo ov rfl (by simp only [okL,wO_]) rfl (λY _=>wB_ _) rfl (by kernel_rfl) λY hf hg=>?_;unfold AX_;cases o with
 |none=>exact wt_ (r:=.bool false) (by kernel_rfl) rfl (v8_ (t:=false) rfl (λh=>by cases h) (λ_=>vz_ rfl))
 |some n=>have hn:=hn n rfl;refine wt_ (vY_ ..) rfl (v8_ rfl (λh=>?_) (λh=>vz_ ?_));have h:n=0\/n=9223372036854775808:=(by simp only [decide_eq_true_eq]at h;omega);rcases h with rfl|rfl;exact wt_ (r:=.flt .f64 9218868437227405312) (by kernel_rfl) rfl (wt_ (r:=.bool true) (by kernel_rfl) rfl (vz_ rfl));exact wt_ (r:=.flt .f64 18442240474082181120) (by kernel_rfl) rfl (wt_ (r:=.bool false) (by kernel_rfl) rfl (vz_ rfl));have h:¬n=0:=(by simp only [decide_eq_false_iff_not]at h;intro e;subst e;simp at h);show AV.bool false=_;rw [decide_eq_false (λe=>h (zO_.1 e))]
def FV.Wf (v:FV):Prop:=v.k≠5->∀n,v.f=some n->n<18446744073709551616
theorem p62 (v:FV) (h:v.Wf):iu_ Tryz.prog 62 [.agg (u_ v)] (.bool (P_ v)):=by
 obtain ⟨k,i,f⟩:=v;refine uW_ (sh:=[some 3]) (ls:=u_ ⟨k,i,f⟩++[]) (c:=c62) (n:=300) (t:=t62) mo ov rfl (by simp only [List.append_nil,okV]) rfl (λY _=>wB_ _) rfl (by kernel_rfl) λY hf hg=>?_;have h:k≠5->∀n,f=some n->n<18446744073709551616:=h;show VOK _ (· =AV.bool (if k=5 then decide (i=0)else if n_ f=0 then (if k=1 then decide (i=0\/i=1)else if k=2 then decide (i=w16 i)else if k=3 then decide (i=w32 i)else decide (k=4))else false)) _ _ _;unfold t62;refine wt_ (run_eql ..) rfl (v8_ rfl (λh5=>?_) (λh5=>?_));rw [if_pos (of_decide_eq_true h5:k=5)];exact wt_ (run_eql ..) rfl (vz_ rfl);have h5:¬k=5:=of_decide_eq_false h5;rw [if_neg h5];refine vy_ (Cf_ f (h h5)) rfl rfl (wt_ (wl_ ..) rfl (v8_ rfl (λhb=>vz_ ?_) (λhb=>?_)));have hb:(!decide (n_ f=0))=true:=hb;rw [if_neg (by simpa using hb)];rfl;have hb:(!decide (n_ f=0))=false:=hb;rw [if_pos (by simpa using hb)];refine wt_ (run_eql ..) rfl (v8_ rfl (λh1=>?_) (λh1=>?_))
 .rw [if_pos (of_decide_eq_true h1:k=1)];refine wt_ (run_eql ..) rfl (v8_ rfl (λh0=>vz_ ?_) (λh0=>wt_ (run_eql ..) rfl (vz_ ?_)));have h0:i=0:=of_decide_eq_true h0;exact congrArg AV.bool (decide_eq_true (.inl h0)).symm
  .have h0:¬i=0:=of_decide_eq_false h0;show AV.bool (decide (i=1))=AV.bool (decide (i=0\/i=1))
   congr 1
   exact decide_eq_decide.2 ⟨.inr,λe=>e.resolve_left h0⟩
 rw [if_neg (of_decide_eq_false h1:¬k=1)];refine wt_ (run_eql ..) rfl (v8_ rfl (λh2=>?_) (λh2=>?_));rw [if_pos (of_decide_eq_true h2:k=2)];exact wt_ (ur_ Tryz.underlying2 Tryz.underlying128 _) rfl (wt_ (ur_ Tryz.underlying128 Tryz.underlying2 _) rfl (wt_ (run_eql ..) rfl (vz_ rfl)));rw [if_neg (of_decide_eq_false h2:¬k=2)];refine wt_ (run_eql ..) rfl (v8_ rfl (λh3=>?_) (λh3=>?_));rw [if_pos (of_decide_eq_true h3:k=3)];exact wt_ (ur_ Tryz.underlying2 Tryz.underlying21 _) rfl (wt_ (ur_ Tryz.underlying21 Tryz.underlying2 _) rfl (wt_ (run_eql ..) rfl (vz_ rfl)));rw [if_neg (of_decide_eq_false h3:¬k=3)];exact wt_ (run_eql ..) rfl (vz_ rfl)
end Go.Proofs.YtmgenobllanmjaaGreatDoor.vars
set_option linter.unusedVariables false
set_option linter.unusedSimpArgs false
namespace Go.Sx
section
variable {P:Program} {t:TypeId} {ti:TypeInfo} {α:Type} {enc:α->List AV} {w:Nat}
theorem zQ_ (hw:∀a,(enc a).length=w) (l:List α) {i:Nat} (hi:i<l.length):∃a b,a9_ enc l=a++(enc l[i]++b)/\a.length=i*w/\∀x,a9_ enc (l.set i x)=a++(enc x++b):=by
 refine ⟨a9_ enc (l.take i),a9_ enc (l.drop (i+1)),?_,?_,λx=>?_⟩;have h1:l=l.take i++l[i]::l.drop (i+1):=(by rw [List.getElem_cons_drop,List.take_append_drop]);have h2:=congrArg (a9_ enc) h1;rw [dw_]at h2;exact h2
 .rw [bw_ hw,List.length_take];congr 1;omega
 rw [List.set_eq_take_append_cons_drop,if_pos hi,dw_];rfl
theorem zo_ {l:List α} {i:Nat} (hi:i<l.length) (k:IntKind):(XOp.inb).run P [bb_ enc w l,.int k (i:Int)]=some (.int .i64 (i:Int)):=by
 cases l with
 |nil=>simp at hi
 |cons x r=>
  show (match Sx.idx (i:Int) (r.length+1)with|some n=>some (AV.int .i64 (.ofNat n))|none=>none)=_;have hb:Nat.blt i (r.length+1)=true:=(by simpa [Nat.blt_eq]using hi);have:Sx.idx (i:Int) (r.length+1)=some i:=by show (match Nat.blt i (r.length+1)with|true=>some i|false=>none)=some i;rw [hb]
  rw [this];rfl
end
end Go.Sx
set_option linter.unusedVariables false
set_option linter.unusedSimpArgs false
namespace Go.Sx
section
variable {P:Program} {t:TypeId} {ti:TypeInfo} {α:Type} {enc:α->List AV} {w:Nat}
theorem yQ_ {d:TypeDesc} (ht:P.underlying t=some d) (ha:l7_ d=false) (hw:∀a,(enc a).length=w) {l:List α} {i:Nat} (hi:i<l.length) {off:Nat} {v:AV} {p r:List AV} (he:enc l[i]=p++(v::r)) (hp:p.length=off) (k:IntKind):(XOp.ldx t w off).run P [bb_ enc w l,.int k (i:Int)]=some v:=by
 obtain ⟨a,b,e1,e2,_⟩:=zQ_ hw l hi;obtain ⟨x0,l',rfl⟩:∃x l',l=x::l':=by cases l with|nil=>simp at hi|cons x l'=>exact ⟨x,l',rfl⟩
 show bn_ P (sg_ (a9_ enc (x0::l'))) t (.ptr 0 (i*w+off))=_;unfold bn_;simp only [ht,ha];have hg:(sg_ (a9_ enc (x0::l'))).get 0=some (.cells (a9_ enc (x0::l'))):=rfl;unfold aV_;simp only [hg];have hd:aj_ (i*w+off) (a9_ enc (x0::l'))=v::(r++b):=by rw [aA_,e1,he,←e2,←hp];rw [show a++(p++v::r++b)=(a++p)++(v::(r++b)) by simp [List.append_assoc]];rw [←List.length_append,List.drop_left]
 rw [hd];rfl
end
end Go.Sx
set_option maxRecDepth 100000
set_option linter.unusedVariables false
set_option linter.unusedSimpArgs false
namespace Go.Proofs.YtmgenobllanmjaaGreatDoor.vars
open Go Go.Sx
end Go.Proofs.YtmgenobllanmjaaGreatDoor.vars
