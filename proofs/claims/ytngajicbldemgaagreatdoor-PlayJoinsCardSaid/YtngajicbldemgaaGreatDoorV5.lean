/-
  Values written, behind their kind; values that may be.
-/
import Derived.Test.YtngajicbldemgaaGreatDoorFA
set_option maxRecDepth 100000
set_option linter.unusedVariables false
set_option linter.unusedSimpArgs false
namespace Go.Proofs.YtngajicbldemgaaGreatDoor.vars
open Go Go.Sx
def c49:VC:=⟨⟨[],[]⟩,[(88,[none])],[],0,true,[]⟩
def t49:VT:=It Q2 [64,J 5] 67 (Li Qh [65,J 0] 68<|.done (68))<|.call 88 [66] 68 [none]<|It Q4 [68] 69 (.done (.bool false))<|It Q2 [64,J 1] 70 (It Qh [65,J 0] 71 (.done (.bool true))<|Li Qh [65,J 1] 72<|.done (72))<|It Q2 [64,J 2] 71 (Li Qs [65] 72<|Li Qt [72] 73<|Li Qc [65,73] 74<|.done (74))<|It Q2 [64,J 3] 72 (Li Qu [65] 73<|Li Qv [73] 74<|Li Qc [65,74] 75<|.done (75))<|Li Q2 [64,J 4] 73<|.done (73)
def w16 (i:Int):Int:=IntKind.i64.wrap (IntKind.i16.wrap i)
def w32 (i:Int):Int:=IntKind.i64.wrap (IntKind.i32.wrap i)
theorem wE_ {i:Int} (h1: -32768<=i) (h2:i<=32767):w16 i=i:=by
 have e:IntKind.i16.wrap i=i:=by simp [IntKind.wrap,IntKind.bits,IntKind.signed];omega
 unfold w16;rw [e,vT_ (by omega) (by omega)]
theorem wF_ {i:Int} (h1: -2147483648<=i) (h2:i<=2147483647):w32 i=i:=by
 have e:IntKind.i32.wrap i=i:=by simp [IntKind.wrap,IntKind.bits,IntKind.signed];omega
 unfold w32;rw [e,vT_ (by omega) (by omega)]
def Vv (v:PV):Prop:=(v.k=1/\v.f=0/\(v.i=0\/v.i=1))\/(v.k=2/\v.f=0/\w16 v.i=v.i)\/(v.k=3/\v.f=0/\w32 v.i=v.i)\/(v.k=4/\v.f=0)\/(v.k=5/\v.i=0)
theorem Vv.k {v:PV} (h:Vv v):1<=v.k/\v.k<=5:=by rcases h with ⟨h,_⟩|⟨h,_⟩|⟨h,_⟩|⟨h,_⟩|⟨h,_⟩<;>omega
def al_ (v:PV):List UInt8:=[0,1,1,UInt8.ofNat v.k,0,0,0]++j_ (p_ v) (q_ v.k)
theorem u1 (i:Int) (h:i=0\/i=1):ic_ Tryz.prog 25 [.vsl 1 7 [.int .i64 1,.int .i64 1,.int .i64 0,.int .i64 0,.int .i64 1,.int .i64 i,.flt .f64 0]] (nh_ a_ 1 (al_ ⟨1,i,0⟩)):=by
 refine u7_ (args':=[.vsl 1 7 [.int .i64 1,.int .i64 1,.int .i64 0,.int .i64 0,.int .i64 1,.sym 64,.flt .f64 0]]) (ls:=[.int .i64 i]) (c:=wL_) (n:=300) (t:=wm_) mox ov rfl rfl rfl (qa_ (si_ b_ _)) (λY _=>rfl) (λY _=>vK_ _) rfl (by kernel_rfl) λY hf hg=>?_;have hl:([0,1,1,1,0,0,0]:List UInt8).length+(j_ (p_ ⟨1,i,0⟩) (q_ 1)).length<=1000000:=by rw [c_];decide
 have ap:=A_ (SlV.of (enc:=a_) (w:=1) (j_ (p_ ⟨1,i,0⟩) (q_ 1))) [0,1,1,1,0,0,0] hl;unfold wm_;refine uG_ (p47 0) rfl rfl (vC_ (run_neq ..) rfl (vl_ (t:=false) rfl (λh=>by cases h) (λ_=>?_)));refine vC_ (run_eql ..) rfl (vl_ rfl (λ_=>uG_ (p46 (v:=⟨1,i,0⟩) ⟨(by decide:1<=1),(by decide:1<=5)⟩) rfl (by show okL [cS_ a_ 1 _]=true;simp only [okL,uh_ b_]) (vC_ ap (si_ b_ _) (uH_ rfl))) (λh0=>?_));have h0:¬i=0:=of_decide_eq_false h0;have h1:i=1:=by omega
 refine vC_ (run_eql ..) rfl (vC_ (vw_ ..) rfl (vl_ rfl (λh=>?_) (λ_=>uG_ (p46 (v:=⟨1,i,0⟩) ⟨(by decide:1<=1),(by decide:1<=5)⟩) rfl (by show okL [cS_ a_ 1 _]=true;simp only [okL,uh_ b_]) (vC_ ap (si_ b_ _) (uH_ rfl)))));have h:(!decide (i=1))=true:=h;rw [decide_eq_true h1]at h;cases h
theorem u2 (i:Int) (h:w16 i=i):ic_ Tryz.prog 25 [.vsl 1 7 [.int .i64 1,.int .i64 2,.int .i64 0,.int .i64 0,.int .i64 2,.int .i64 i,.flt .f64 0]] (nh_ a_ 1 (al_ ⟨2,i,0⟩)):=by
 refine u7_ (args':=[.vsl 1 7 [.int .i64 1,.int .i64 2,.int .i64 0,.int .i64 0,.int .i64 2,.sym 64,.flt .f64 0]]) (ls:=[.int .i64 i]) (c:=wM_) (n:=300) (t:=wn_) mox ov rfl rfl rfl (qa_ (si_ b_ _)) (λY _=>rfl) (λY _=>vK_ _) rfl (by kernel_rfl) λY hf hg=>?_;have hl:([0,1,1,2,0,0,0]:List UInt8).length+(j_ (p_ ⟨2,i,0⟩) (q_ 2)).length<=1000000:=by rw [c_];decide
 have ap:=A_ (SlV.of (enc:=a_) (w:=1) (j_ (p_ ⟨2,i,0⟩) (q_ 2))) [0,1,1,2,0,0,0] hl;unfold wn_;refine uG_ (p47 0) rfl rfl (vC_ (run_neq ..) rfl (vl_ (t:=false) rfl (λh=>by cases h) (λ_=>?_)));refine vC_ (tK_ Tryz.underlying2 Tryz.underlying108 _) rfl (vC_ (tK_ Tryz.underlying108 Tryz.underlying2 _) rfl (vC_ (run_eql ..) rfl (vC_ (vw_ ..) rfl (vl_ rfl (λh2=>?_) (λ_=>uG_ (p46 (v:=⟨2,i,0⟩) ⟨(by decide:1<=2),(by decide:2<=5)⟩) rfl (by show okL [cS_ a_ 1 _]=true;simp only [okL,uh_ b_]) (vC_ ap (si_ b_ _) (uH_ rfl)))))));have h2:(!decide (i=w16 i))=true:=h2;rw [h,decide_eq_true rfl]at h2;cases h2
theorem u3 (i:Int) (h:w32 i=i):ic_ Tryz.prog 25 [.vsl 1 7 [.int .i64 1,.int .i64 3,.int .i64 0,.int .i64 0,.int .i64 3,.int .i64 i,.flt .f64 0]] (nh_ a_ 1 (al_ ⟨3,i,0⟩)):=by
 refine u7_ (args':=[.vsl 1 7 [.int .i64 1,.int .i64 3,.int .i64 0,.int .i64 0,.int .i64 3,.sym 64,.flt .f64 0]]) (ls:=[.int .i64 i]) (c:=wN_) (n:=300) (t:=wo_) mox ov rfl rfl rfl (qa_ (si_ b_ _)) (λY _=>rfl) (λY _=>vK_ _) rfl (by kernel_rfl) λY hf hg=>?_;have hl:([0,1,1,3,0,0,0]:List UInt8).length+(j_ (p_ ⟨3,i,0⟩) (q_ 3)).length<=1000000:=by rw [c_];decide
 have ap:=A_ (SlV.of (enc:=a_) (w:=1) (j_ (p_ ⟨3,i,0⟩) (q_ 3))) [0,1,1,3,0,0,0] hl;unfold wo_;refine uG_ (p47 0) rfl rfl (vC_ (run_neq ..) rfl (vl_ (t:=false) rfl (λh=>by cases h) (λ_=>?_)));refine vC_ (tK_ Tryz.underlying2 Tryz.underlying21 _) rfl (vC_ (tK_ Tryz.underlying21 Tryz.underlying2 _) rfl (vC_ (run_eql ..) rfl (vC_ (vw_ ..) rfl (vl_ rfl (λh2=>?_) (λ_=>uG_ (p46 (v:=⟨3,i,0⟩) ⟨(by decide:1<=3),(by decide:3<=5)⟩) rfl (by show okL [cS_ a_ 1 _]=true;simp only [okL,uh_ b_]) (vC_ ap (si_ b_ _) (uH_ rfl)))))));have h2:(!decide (i=w32 i))=true:=h2;rw [h,decide_eq_true rfl]at h2;cases h2
theorem u4 (i:Int):ic_ Tryz.prog 25 [.vsl 1 7 [.int .i64 1,.int .i64 4,.int .i64 0,.int .i64 0,.int .i64 4,.int .i64 i,.flt .f64 0]] (nh_ a_ 1 (al_ ⟨4,i,0⟩)):=by
 refine u7_ (args':=[.vsl 1 7 [.int .i64 1,.int .i64 4,.int .i64 0,.int .i64 0,.int .i64 4,.sym 64,.flt .f64 0]]) (ls:=[.int .i64 i]) (c:=wO_) (n:=300) (t:=wp_) mox ov rfl rfl rfl (qa_ (si_ b_ _)) (λY _=>rfl) (λY _=>vK_ _) rfl (by kernel_rfl) λY hf hg=>?_;have hl:([0,1,1,4,0,0,0]:List UInt8).length+(j_ (p_ ⟨4,i,0⟩) (q_ 4)).length<=1000000:=by rw [c_];decide
 have ap:=A_ (SlV.of (enc:=a_) (w:=1) (j_ (p_ ⟨4,i,0⟩) (q_ 4))) [0,1,1,4,0,0,0] hl;unfold wp_;exact uG_ (p46 (v:=⟨4,i,0⟩) ⟨(by decide:1<=4),(by decide:4<=5)⟩) rfl (by show okL [cS_ a_ 1 _]=true;simp only [okL,uh_ b_]) (vC_ ap (si_ b_ _) (uH_ rfl))
theorem u5 (f:Nat):ic_ Tryz.prog 25 [.vsl 1 7 [.int .i64 1,.int .i64 5,.int .i64 0,.int .i64 0,.int .i64 5,.int .i64 0,.flt .f64 f]] (nh_ a_ 1 (al_ ⟨5,0,f⟩)):=by
 refine u7_ (args':=[.vsl 1 7 [.int .i64 1,.int .i64 5,.int .i64 0,.int .i64 0,.int .i64 5,.int .i64 0,.sym 64]]) (ls:=[.flt .f64 f]) (c:=wP_) (n:=300) (t:=wq_) mox ov rfl rfl rfl (qa_ (si_ b_ _)) (λY _=>rfl) (λY _=>vK_ _) rfl (by kernel_rfl) λY hf hg=>?_;have hl:([0,1,1,5,0,0,0]:List UInt8).length+(j_ (p_ ⟨5,0,f⟩) (q_ 5)).length<=1000000:=by rw [c_];decide
 have ap:=A_ (SlV.of (enc:=a_) (w:=1) (j_ (p_ ⟨5,0,f⟩) (q_ 5))) [0,1,1,5,0,0,0] hl;unfold wq_;exact uG_ (p46 (v:=⟨5,0,f⟩) ⟨(by decide:1<=5),(by decide:5<=5)⟩) rfl (by show okL [cS_ a_ 1 _]=true;simp only [okL,uh_ b_]) (vC_ ap (si_ b_ _) (uH_ rfl))
theorem p25 {v:PV} (h:Vv v):ic_ Tryz.prog 25 [.vsl 1 7 [.int .i64 1,.int .i64 (v.k:Int),.int .i64 0,.int .i64 0,.int .i64 (v.k:Int),.int .i64 v.i,.flt .f64 v.f]] (nh_ a_ 1 (al_ v)):=by
 obtain ⟨k,i,f⟩:=v;rcases h with ⟨h1,h2,h3⟩|⟨h1,h2,h3⟩|⟨h1,h2,h3⟩|⟨h1,h2⟩|⟨h1,h2⟩<;>simp only at h1 h2<;>subst h1 h2
 exact u1 i h3;exact u2 i h3;exact u3 i h3;exact u4 i;exact u5 f
theorem p18 {v:PV} (h:Vv v):ic_ Tryz.prog 18 [.agg (lF_ v)] (cS_ a_ 1 (I_ v)):=by
 have hk:=h.k;refine ua_ (sh:=[some 3]) (ls:=lF_ v++[]) (c:=c18) (n:=300) (t:=t18) mox ov rfl rfl (qa_ (uh_ b_ _)) (λY _=>vK_ _) rfl (by kernel_rfl) λY hf hg=>?_;have hB:By (al_ v) (nh_ a_ 1 (al_ v)):=SlV.v _;have hlen:(al_ v).length=7+q_ v.k:=by unfold al_;rw [List.length_append,c_];rfl
 have hw:=J_ v.k;obtain ⟨r,e1,hr⟩:=w5_ hB (n:=7) (by omega);have hd:(al_ v).drop 7=j_ (p_ v) (q_ v.k):=B_ rfl;rw [hd]at hr;unfold t18;refine uG_ (p25 h) rfl (by show okL [nh_ a_ 1 _]=true;simp only [okL,si_ b_]) (vC_ (k_ hB) rfl (vC_ (run_lss ..) rfl (vl_ rfl (λh7=>?_) (λ_=>?_))));have h7:((al_ v).length:Int)<7:=of_decide_eq_true h7;omega;have e2:(XOp.conv 3 5).run Tryz.prog [.int .i64 (v.k:Int)]=some (.int .u8 ((UInt8.ofNat v.k).toNat:Int)):=by
  rw [tK_ Tryz.underlying3 Tryz.underlying5,E_ (by omega)];have:IntKind.u8.wrap (v.k:Int)=(v.k:Int):=by simp [IntKind.wrap,IntKind.bits,IntKind.signed];omega
  rw [this]
 have hc:=p16 [⟨[UInt8.ofNat v.k],nh_ a_ 1 [UInt8.ofNat v.k]⟩,⟨j_ (p_ v) (q_ v.k),r⟩] (λs hs=>by
  rcases List.mem_cons.1 hs with rfl|hs;exact SlV.v _
  .rcases List.mem_cons.1 hs with rfl|hs;exact hr
   .cases hs) (by show 2<=1000;decide) (by
  show ([UInt8.ofNat v.k]++(j_ (p_ v) (q_ v.k)++[])).length<=1000000;simp only [List.length_append,c_,List.length_cons,List.length_nil];omega)
 have ec:K_ [⟨[UInt8.ofNat v.k],nh_ a_ 1 [UInt8.ofNat v.k]⟩,⟨j_ (p_ v) (q_ v.k),r⟩]=I_ v:=by show [UInt8.ofNat v.k]++(j_ (p_ v) (q_ v.k)++[])=_;rw [List.append_nil];rfl
 rw [ec]at hc;exact vC_ e2 rfl (vC_ e1 (hr.ok b_) (uG_ hc rfl (by show okL [cS_ a_ 1 _]=true;simp only [okL,uh_ b_]) (uH_ rfl)))
theorem p88:ic_ Tryz.prog 88 [.flt .f64 0] (.bool true):=vq_ mox ov (n:=3000) (by kernel_rfl)
def okM (v:PV):Bool:=if v.k=5 then decide (v.i=0)else if v.k=1 then decide (v.i=0\/v.i=1)else if v.k=2 then decide (v.i=w16 v.i)else if v.k=3 then decide (v.i=w32 v.i)else decide (v.k=4)
theorem cEq {a b:Nat} (h:decide ((a:Int)=(b:Int))=true):a=b:=by have:=of_decide_eq_true h;omega
theorem cNe {a b:Nat} (h:decide ((a:Int)=(b:Int))=false):a≠b:=by have:=of_decide_eq_false h;omega
theorem p49 (v:PV) (h:v.k≠5->v.f=0):ic_ Tryz.prog 49 [.agg (lF_ v)] (.bool (okM v)):=by
 obtain ⟨k,i,f⟩:=v;refine ua_ (sh:=[some 3]) (ls:=lF_ ⟨k,i,f⟩++[]) (c:=c49) (n:=300) (t:=t49) mox ov rfl rfl rfl (λY _=>vK_ _) rfl (by kernel_rfl) λY hf hg=>?_;have h:k≠5->f=0:=h;show VOK _ (· =AV.bool (if k=5 then decide (i=0)else if k=1 then decide (i=0\/i=1)else if k=2 then decide (i=w16 i)else if k=3 then decide (i=w32 i)else decide (k=4))) _ _ _;unfold t49;refine vC_ (run_eql ..) rfl (vl_ rfl (λh5=>?_) (λh5=>?_));have h5:=cEq (b:=5) h5;rw [if_pos h5];exact vC_ (run_eql ..) rfl (uH_ rfl);have h5:=cNe (b:=5) h5;rw [if_neg h5];obtain rfl:=h h5;refine uG_ p88 rfl rfl (vC_ (vw_ ..) rfl (vl_ (t:=false) rfl (λh=>by cases h) (λ_=>vC_ (run_eql ..) rfl (vl_ rfl (λh1=>?_) (λh1=>?_)))))
 .rw [if_pos (cEq (b:=1) h1)];refine vC_ (run_eql ..) rfl (vl_ rfl (λh0=>uH_ ?_) (λh0=>vC_ (run_eql ..) rfl (uH_ ?_)));have h0:i=0:=of_decide_eq_true h0;exact congrArg AV.bool (decide_eq_true (.inl h0)).symm
  .have h0:¬i=0:=of_decide_eq_false h0;show AV.bool (decide (i=1))=AV.bool (decide (i=0\/i=1))
   congr 1
   exact decide_eq_decide.2 ⟨.inr,λe=>e.resolve_left h0⟩
 rw [if_neg (cNe (b:=1) h1)];refine vC_ (run_eql ..) rfl (vl_ rfl (λh2=>?_) (λh2=>?_));rw [if_pos (cEq (b:=2) h2)];exact vC_ (tK_ Tryz.underlying2 Tryz.underlying108 _) rfl (vC_ (tK_ Tryz.underlying108 Tryz.underlying2 _) rfl (vC_ (run_eql ..) rfl (uH_ rfl)));rw [if_neg (cNe (b:=2) h2)];refine vC_ (run_eql ..) rfl (vl_ rfl (λh3=>?_) (λh3=>?_));rw [if_pos (cEq (b:=3) h3)];exact vC_ (tK_ Tryz.underlying2 Tryz.underlying21 _) rfl (vC_ (tK_ Tryz.underlying21 Tryz.underlying2 _) rfl (vC_ (run_eql ..) rfl (uH_ rfl)));rw [if_neg (cNe (b:=3) h3)];refine vC_ (run_eql ..) rfl (uH_ ?_);show AV.bool (decide ((k:Int)=4))=AV.bool (decide (k=4))
 congr 1
 exact decide_eq_decide.2 (by omega)
def c31:VC:=⟨⟨[],[]⟩,[(48,[none]),(49,[none]),(18,[none]),(26,[none])],[],1,true,[(28,ft28)]⟩
def t31:VT:=Cf 28 ft28 [64,65,J 1] 66 3<|It Q2 [69,J 1] 72 (Cf 28 ft28 [70,71,J 1] 73 3<|.call 49 [.agg [69,76,.flt .f64 0]] 79 [none]<|It Q4 [79] 80 (Dn [69,76,.flt .f64 0,.nsl,.bool true])<|.ite 78 (Dn [69,76,.flt .f64 0,.nsl,.bool true])<|.call 18 [.agg [69,76,.flt .f64 0]] 81 [none]<|Li Q1 [64] 82<|Li Q1 [77] 83<|Li Qf [82,83] 84<|Li Qe [64,84] 85<|.call 26 [81,85] 86 [none]<|It Q4 [86] 87 (Dn [69,76,.flt .f64 0,.nsl,.bool true])<|Dn [69,76,.flt .f64 0,77,78])<|It Q2 [69,J 2] 73 (Cf 28 ft28 [70,71,J 2] 74 3<|Li Qs [77] 80<|Li Qt [80] 81<|.call 49 [.agg [69,81,.flt .f64 0]] 82 [none]<|It Q4 [82] 83 (Dn [69,81,.flt .f64 0,.nsl,.bool true])<|.ite 79 (Dn [69,81,.flt .f64 0,.nsl,.bool true])<|.call 18 [.agg [69,81,.flt .f64 0]] 84 [none]<|Li Q1 [64] 85<|Li Q1 [78] 86<|Li Qf [85,86] 87<|Li Qe [64,87] 88<|.call 26 [84,88] 89 [none]<|It Q4 [89] 90 (Dn [69,81,.flt .f64 0,.nsl,.bool true])<|Dn [69,81,.flt .f64 0,78,79])<|It Q2 [69,J 3] 74 (Cf 28 ft28 [70,71,J 4] 75 3<|Li Qu [78] 81<|Li Qv [81] 82<|.call 49 [.agg [69,82,.flt .f64 0]] 83 [none]<|It Q4 [83] 84 (Dn [69,82,.flt .f64 0,.nsl,.bool true])<|.ite 80 (Dn [69,82,.flt .f64 0,.nsl,.bool true])<|.call 18 [.agg [69,82,.flt .f64 0]] 85 [none]<|Li Q1 [64] 86<|Li Q1 [79] 87<|Li Qf [86,87] 88<|Li Qe [64,88] 89<|.call 26 [85,89] 90 [none]<|It Q4 [90] 91 (Dn [69,82,.flt .f64 0,.nsl,.bool true])<|Dn [69,82,.flt .f64 0,79,80])<|It Q2 [69,J 4] 75 (Cf 28 ft28 [70,71,J 8] 76 3<|.call 49 [.agg [69,79,.flt .f64 0]] 82 [none]<|It Q4 [82] 83 (Dn [69,79,.flt .f64 0,.nsl,.bool true])<|.ite 81 (Dn [69,79,.flt .f64 0,.nsl,.bool true])<|.call 18 [.agg [69,79,.flt .f64 0]] 84 [none]<|Li Q1 [64] 85<|Li Q1 [80] 86<|Li Qf [85,86] 87<|Li Qe [64,87] 88<|.call 26 [84,88] 89 [none]<|It Q4 [89] 90 (Dn [69,79,.flt .f64 0,.nsl,.bool true])<|Dn [69,79,.flt .f64 0,80,81])<|It Q2 [69,J 5] 76 (Cf 28 ft28 [70,71,J 8] 77 3<|Li (.conv 2 105) [80] 83<|.call 48 [83] 84 [none]<|.call 49 [.agg [69,J 0,84]] 85 [none]<|It Q4 [85] 86 (Dn [69,J 0,84,.nsl,.bool true])<|.ite 82 (Dn [69,J 0,84,.nsl,.bool true])<|.call 18 [.agg [69,J 0,84]] 87 [none]<|Li Q1 [64] 88<|Li Q1 [81] 89<|Li Qf [88,89] 90<|Li Qe [64,90] 91<|.call 26 [87,91] 92 [none]<|It Q4 [92] 93 (Dn [69,J 0,84,.nsl,.bool true])<|Dn [69,J 0,84,81,82])<|.call 49 [.agg [69,J 0,.flt .f64 0]] 77 [none]<|It Q4 [77] 78 (Dn [69,J 0,.flt .f64 0,.nsl,.bool true])<|.ite 71 (Dn [69,J 0,.flt .f64 0,.nsl,.bool true])<|.call 18 [.agg [69,J 0,.flt .f64 0]] 79 [none]<|Li Q1 [64] 80<|Li Q1 [70] 81<|Li Qf [80,81] 82<|Li Qe [64,82] 83<|.call 26 [79,83] 84 [none]<|It Q4 [84] 85 (Dn [69,J 0,.flt .f64 0,.nsl,.bool true])<|Dn [69,J 0,.flt .f64 0,70,71]
def R31 (l:List UInt8) (bad:Bool):Nat->List AV->Prop:=λ_ ws=>∃(k:Nat) (i:Int) (f:Nat) (y:AV) (b:Bool),ws=[.int .i64 (k:Int),.int .i64 i,.flt .f64 f,y,.bool b]/\(match (if bad=true then none else t_ l)with
 |some (v,r)=>b=false/\v=⟨k,i,f⟩/\y=nh_ a_ 1 r
 |none=>b=true/\y=.nsl)
theorem R31.no {l:List UInt8} {bad:Bool} (h:bad=true\/t_ l=none) (k:Nat) (i:Int) (f:Nat):R31 l bad 0 [.int .i64 (k:Int),.int .i64 i,.flt .f64 f,.nsl,.bool true]:=by
 refine ⟨k,i,f,.nsl,true,rfl,?_⟩;have e:(if bad=true then none else t_ l)=none:=by split;rfl;exact h.resolve_left ‹_›
 rw [e];exact ⟨rfl,rfl⟩
theorem R31.yes {l r:List UInt8} {v:PV} {y:AV} (h:t_ l=some (v,r)) (hy:y=nh_ a_ 1 r):R31 l false 0 [.int .i64 (v.k:Int),.int .i64 v.i,.flt .f64 v.f,y,.bool false]:=by refine ⟨v.k,v.i,v.f,y,false,rfl,?_⟩;rw [show (if false=true then none else t_ l)=some (v,r) from h];exact ⟨rfl,rfl,hy⟩
theorem s_ {l:List UInt8} (h:l.length<=7):n_ l=(l_ 0 l:Int):=by
 have h1:=r_ l;have h2:256^l.length<=256^7:=Nat.pow_le_pow_right (by decide) h;have h3:(256:Nat)^7=72057594037927936:=by decide
 exact vT_ (by omega) (by omega)
theorem p3_ (c:UInt8):l_ 0 [c]=c.toNat:=by simp [l_]
theorem ok5 {k i f:AV} {y:AV} {b:Bool} (h0:okC k=true) (h1:okC i=true) (h2:okC f=true) (h:okC y=true):okL [k,i,f,y,.bool b]=true:=by simp only [okL,h0,h1,h2,h,okC]
theorem hM_ {l r:List UInt8} {c:UInt8} {x:AV} (hl:l=c::r) {w:Nat} {y:AV} (hx:By l x) (hy:By (r.drop w) y) (hw:w<=r.length) (hlen:l.length<=1000) {v:PV} (hv:Vv v):∃p q m,(XOp.bin .sub 3 false false).run Tryz.prog [.int .i64 (l.length:Int),.int .i64 ((r.drop w).length:Int)]=some p/\okC p=true/\
  (XOp.slc 23 false true).run Tryz.prog [x,p]=some q/\okC q=true/\ic_ Tryz.prog 26 [cS_ a_ 1 (I_ v),q] (.bool m)/\m=decide (I_ v=c::r.take w):=by
 have e:l.length=1+r.length:=by rw [hl];simp;omega
 have e2:(r.drop w).length=r.length-w:=List.length_drop;obtain ⟨q,h1,h2⟩:=w3_ hx (n:=1+w) (by omega);have e3:l.take (1+w)=c::r.take w:=by rw [hl,Nat.add_comm];rfl
 rw [e3]at h2;have hvl:(I_ v).length<=1000000:=by have:=J_ v.k;rw [T_,List.length_cons,c_];omega
 refine ⟨.int .i64 ((1+w:Nat):Int),q,_,?_,rfl,h1,h2.ok b_,p26 (SlV.of _) h2 hvl,rfl⟩;refine (run_sub ..).trans ?_;rw [vT_ (by omega) (by omega)]
 congr 2
 omega
theorem U_ {c:UInt8} {r:List UInt8} {k w:Nat} (hk:c.toNat=k) (hw:q_ k=w) (hle:w<=r.length):t_ (c::r)=if okN k (l_ 0 (r.take w))=true then some (rv_ k (l_ 0 (r.take w)),r.drop w)else none:=by rw [y_,hk,hw];by_cases h:okN k (l_ 0 (r.take w))=true;rw [if_pos ⟨hle,h⟩,if_pos h];rw [if_neg (λe=>h e.2),if_neg h]
theorem u_ {c:UInt8} {r:List UInt8} {k w:Nat} (hk:c.toNat=k) (hw:q_ k=w) (h:r.length<w):t_ (c::r)=none:=by rw [y_,hk,hw];exact if_neg λe=>by omega
theorem x_ {c:UInt8} {r:List UInt8} {v:PV} {w:Nat} (h:t_ (c::r)=some (v,r.drop w)):I_ v=c::r.take w:=by
 have h1:=(ut_ h).2;have h2:c::r=(c::r.take w)++r.drop w:=by rw [List.cons_append,List.take_append_drop]
 exact (List.append_cancel_right (h2.symm.trans h1)).symm
theorem wk_ {u:Nat} (h:u<65536):w16 (u:Int)=H_ u 32768/\w16 (H_ u 32768)=H_ u 32768:=by
 have e:IntKind.i16.wrap (u:Int)=H_ u 32768:=by unfold H_;simp [IntKind.wrap,IntKind.bits,IntKind.signed];split<;>split<;>omega
 have hb: -32768<=H_ u 32768/\H_ u 32768<=32767:=by unfold H_;split<;>omega
 refine ⟨?_,wE_ hb.1 hb.2⟩;unfold w16;rw [e,vT_ (by omega) (by omega)]
theorem wl_ {u:Nat} (h:u<4294967296):w32 (u:Int)=H_ u 2147483648/\w32 (H_ u 2147483648)=H_ u 2147483648:=by
 have e:IntKind.i32.wrap (u:Int)=H_ u 2147483648:=by unfold H_;simp [IntKind.wrap,IntKind.bits,IntKind.signed];split<;>split<;>omega
 have hb: -2147483648<=H_ u 2147483648/\H_ u 2147483648<=2147483647:=by unfold H_;split<;>omega
 refine ⟨?_,wF_ hb.1 hb.2⟩;unfold w32;rw [e,vT_ (by omega) (by omega)]
theorem w2_ {u:Nat} (h:u<18446744073709551616):IntKind.i64.wrap (u:Int)=H_ u 9223372036854775808:=by unfold H_;simp [IntKind.wrap,IntKind.bits,IntKind.signed];split<;>split<;>omega
theorem we_ {u:Nat} (h:u<18446744073709551616):IntKind.u64.wrap (IntKind.i64.wrap (u:Int))=(u:Int):=by simp [IntKind.wrap,IntKind.bits,IntKind.signed];split<;>omega
theorem p31 {l:List UInt8} {x:AV} (h:By l x) (bad:Bool) (hx:bad=false->x=nh_ a_ 1 l) (hl:l.length<=1000):CF Tryz.prog 31 ft31 [x,.bool bad] (R31 l bad):=by
 refine vn_ (c:=c31) (n:=300) (t:=t31) mox ov rfl (λY _=>vK_ _) (by kernel_rfl) λY hf hg=>?_;unfold t31;refine ux_ (p28 h bad hx (n:=1) (by decide)) (by show okL [x,.bool bad,.int .i64 1]=true;simp only [okL,h.ok b_,okC]) ⟨?_,trivial⟩;rintro ws ⟨k0,y,b,rfl,hR⟩;by_cases hc:bad=true\/l.length<1
 .rw [if_pos hc]at hR;obtain ⟨rfl,rfl,rfl⟩:=hR;have hn:bad=true\/t_ l=none:=hc.imp id λh=>by have:l=[]:=List.length_eq_zero_iff.1 (by omega);rw [this];rfl
  refine vC_ (run_eql ..) rfl (vl_ (t:=false) rfl (λh=>by cases h) (λ_=>vC_ (run_eql ..) rfl (vl_ (t:=false) rfl (λh=>by cases h) (λ_=>vC_ (run_eql ..) rfl (vl_ (t:=false) rfl (λh=>by cases h) (λ_=>vC_ (run_eql ..) rfl (vl_ (t:=false) rfl (λh=>by cases h) (λ_=>vC_ (run_eql ..) rfl (vl_ (t:=false) rfl (λh=>by cases h) (λ_=>?_))))))))));exact uG_ (p49 ⟨0,0,0⟩ (λ_=>rfl)) rfl rfl (vC_ (vw_ ..) rfl (vl_ (t:=true) rfl (λ_=>vk_ rfl (R31.no hn 0 0 0)) (λh=>by cases h)))
 rw [if_neg hc]at hR;obtain ⟨rfl,rfl,hyv⟩:=hR;have hbad:bad=false:=by
  cases bad with
  |false=>rfl
  |true=>exact absurd (.inl rfl) hc
 subst hbad;obtain ⟨c,r,rfl⟩:∃c r,l=c::r:=by
  cases l with
  |nil=>exact absurd (.inr (by decide)) hc
  |cons c r=>exact ⟨c,r,rfl⟩
 have hr1:r.length+1<=1000:=by simpa using hl
 have hk0:n_ ((c::r).take 1)=(c.toNat:Int):=by show n_ [c]=_;rw [s_ (by show 1<=7;decide),p3_]
 have hyv:y=nh_ a_ 1 r:=hyv;have hy:By r y:=.inl hyv;rw [hk0];refine vC_ (run_eql ..) rfl (vl_ rfl (λhk=>?_) (λhk1=>?_))
 .have hk:c.toNat=1:=cEq (b:=1) hk;rw [hk];refine ux_ (p28 hy false (λ_=>hyv) (n:=1) (by decide)) (by show okL [y,.bool false,.int .i64 1]=true;simp only [okL,hy.ok b_,okC]) ⟨?_,trivial⟩;rintro ws ⟨u0,y2,b2,rfl,hR2⟩;by_cases hc2:false=true\/r.length<1;rw [if_pos hc2]at hR2;obtain ⟨rfl,rfl,rfl⟩:=hR2;have hn:false=true\/t_ (c::r)=none:=.inr (u_ hk rfl (hc2.resolve_left (by decide)));exact uG_ (p49 ⟨1,0,0⟩ (λ_=>rfl)) rfl rfl (vC_ (vw_ ..) rfl (vl_ (t:=false) rfl (λh=>by cases h) (λ_=>vl_ (t:=true) rfl (λ_=>vk_ rfl (R31.no hn 1 0 0)) (λh=>by cases h))));rw [if_neg hc2]at hR2;obtain ⟨rfl,rfl,hyv2⟩:=hR2;have hy2:By (r.drop 1) y2:=.inl hyv2;have hle:1<=r.length:=(by have:=λe=>hc2 (.inr e);omega);have htl:(r.take 1).length=1:=(by rw [List.length_take];omega);have hlt:=r_ (r.take 1);rw [htl]at hlt;have hvd:=U_ (k:=1) (w:=1) hk rfl hle;generalize hu:l_ 0 (r.take 1)=u at hlt hvd;have hnum:n_ (r.take 1)=IntKind.i64.wrap (u:Int):=(by unfold n_;rw [hu]);rw [hnum];have hi:IntKind.i64.wrap (u:Int)=(u:Int):=vT_ (by omega) (by omega);rw [hi];refine uG_ (p49 ⟨1,(u:Int),0⟩ (λ_=>rfl)) rfl rfl (vC_ (vw_ ..) rfl (vl_ rfl (λhm=>?_) (λhm=>vl_ (t:=false) rfl (λh=>by cases h) (λ_=>?_))))
  .have hm:(!decide ((u:Int)=0\/(u:Int)=1))=true:=hm;have hm:¬((u:Int)=0\/(u:Int)=1):=λe=>(by rw [decide_eq_true e]at hm;cases hm);refine vk_ rfl (R31.no (.inr ?_) 1 u 0);rw [hvd];exact if_neg λe=>by have:u<=1:=of_decide_eq_true e;omega
  have hm:(!decide ((u:Int)=0\/(u:Int)=1))=false:=hm;have hm:(u:Int)=0\/(u:Int)=1:=(by by_cases e:(u:Int)=0\/(u:Int)=1;exact e;rw [decide_eq_false e]at hm;cases hm);rw [if_pos (show okN 1 u=true from decide_eq_true (by omega))]at hvd;have hV:Vv ⟨1,(u:Int),0⟩:=.inl ⟨rfl,rfl,hm⟩;obtain ⟨p,q,m,e1,o1,e2,o2,e3,hm3⟩:=hM_ rfl h hy2 hle hl hV;refine uG_ (p18 hV) rfl (by show okL [cS_ a_ 1 _]=true;simp only [okL,uh_ b_]) (vC_ (k_ h) rfl (vC_ (k_ hy2) rfl (vC_ e1 o1 (vC_ e2 o2 (uG_ e3 rfl rfl (vC_ (vw_ ..) rfl (vl_ rfl (λhq=>?_) (λhq=>?_))))))));have:m=true:=hm3.trans (decide_eq_true (x_ hvd));rw [this]at hq;cases hq;exact vk_ (ok5 rfl rfl rfl (hy2.ok b_)) (R31.yes hvd hyv2)
 refine vC_ (run_eql ..) rfl (vl_ rfl (λhk=>?_) (λhk2=>?_));have hk:c.toNat=2:=cEq (b:=2) hk;rw [hk];refine ux_ (p28 hy false (λ_=>hyv) (n:=2) (by decide)) (by show okL [y,.bool false,.int .i64 2]=true;simp only [okL,hy.ok b_,okC]) ⟨?_,trivial⟩;rintro ws ⟨u0,y2,b2,rfl,hR2⟩;by_cases hc2:false=true\/r.length<2;rw [if_pos hc2]at hR2;obtain ⟨rfl,rfl,rfl⟩:=hR2;have hn:false=true\/t_ (c::r)=none:=.inr (u_ hk rfl (hc2.resolve_left (by decide)));exact vC_ (tK_ Tryz.underlying2 Tryz.underlying108 _) rfl (vC_ (tK_ Tryz.underlying108 Tryz.underlying2 _) rfl (uG_ (p49 ⟨2,0,0⟩ (λ_=>rfl)) rfl rfl (vC_ (vw_ ..) rfl (vl_ (t:=false) rfl (λh=>by cases h) (λ_=>vl_ (t:=true) rfl (λ_=>vk_ rfl (R31.no hn 2 0 0)) (λh=>by cases h))))));rw [if_neg hc2]at hR2;obtain ⟨rfl,rfl,hyv2⟩:=hR2;have hy2:By (r.drop 2) y2:=.inl hyv2;have hle:2<=r.length:=(by have:=λe=>hc2 (.inr e);omega);have htl:(r.take 2).length=2:=(by rw [List.length_take];omega);have hlt:=r_ (r.take 2);rw [htl]at hlt;have hvd:=U_ (k:=2) (w:=2) hk rfl hle;generalize hu:l_ 0 (r.take 2)=u at hlt hvd;have hnum:n_ (r.take 2)=IntKind.i64.wrap (u:Int):=(by unfold n_;rw [hu]);rw [hnum];obtain ⟨hi,hi2⟩:=wk_ (u:=u) (by omega);have hi0:IntKind.i64.wrap (u:Int)=(u:Int):=vT_ (by omega) (by omega);rw [hi0];rw [if_pos (show okN 2 u=true from rfl)]at hvd;have hV:Vv ⟨2,H_ u 32768,0⟩:=.inr (.inl ⟨rfl,rfl,hi2⟩);have hM:okM ⟨2,H_ u 32768,0⟩=true:=decide_eq_true hi2.symm;have hp:=p49 ⟨2,H_ u 32768,0⟩ (λ_=>rfl);rw [hM]at hp;refine vC_ (tK_ Tryz.underlying2 Tryz.underlying108 _) rfl (vC_ (r:=.int .i64 (H_ u 32768)) ((tK_ Tryz.underlying108 Tryz.underlying2 _).trans (congrArg (λi=>some (AV.int .i64 i)) hi)) rfl (uG_ hp rfl rfl (vC_ (vw_ ..) rfl (vl_ (t:=false) rfl (λh=>by cases h) (λ_=>vl_ (t:=false) rfl (λh=>by cases h) (λ_=>?_))))));obtain ⟨p,q,m,e1,o1,e2,o2,e3,hm3⟩:=hM_ rfl h hy2 hle hl hV;refine uG_ (p18 hV) rfl (by show okL [cS_ a_ 1 _]=true;simp only [okL,uh_ b_]) (vC_ (k_ h) rfl (vC_ (k_ hy2) rfl (vC_ e1 o1 (vC_ e2 o2 (uG_ e3 rfl rfl (vC_ (vw_ ..) rfl (vl_ rfl (λhq=>?_) (λhq=>?_))))))));have:m=true:=hm3.trans (decide_eq_true (x_ hvd));rw [this]at hq;cases hq;exact vk_ (ok5 rfl rfl rfl (hy2.ok b_)) (R31.yes hvd hyv2);refine vC_ (run_eql ..) rfl (vl_ rfl (λhk=>?_) (λhk3=>?_));have hk:c.toNat=3:=cEq (b:=3) hk;rw [hk];refine ux_ (p28 hy false (λ_=>hyv) (n:=4) (by decide)) (by show okL [y,.bool false,.int .i64 4]=true;simp only [okL,hy.ok b_,okC]) ⟨?_,trivial⟩;rintro ws ⟨u0,y2,b2,rfl,hR2⟩;by_cases hc2:false=true\/r.length<4;rw [if_pos hc2]at hR2;obtain ⟨rfl,rfl,rfl⟩:=hR2;have hn:false=true\/t_ (c::r)=none:=.inr (u_ hk rfl (hc2.resolve_left (by decide)));exact vC_ (tK_ Tryz.underlying2 Tryz.underlying21 _) rfl (vC_ (tK_ Tryz.underlying21 Tryz.underlying2 _) rfl (uG_ (p49 ⟨3,0,0⟩ (λ_=>rfl)) rfl rfl (vC_ (vw_ ..) rfl (vl_ (t:=false) rfl (λh=>by cases h) (λ_=>vl_ (t:=true) rfl (λ_=>vk_ rfl (R31.no hn 3 0 0)) (λh=>by cases h))))));rw [if_neg hc2]at hR2;obtain ⟨rfl,rfl,hyv2⟩:=hR2;have hy2:By (r.drop 4) y2:=.inl hyv2;have hle:4<=r.length:=(by have:=λe=>hc2 (.inr e);omega);have htl:(r.take 4).length=4:=(by rw [List.length_take];omega);have hlt:=r_ (r.take 4);rw [htl]at hlt;have hvd:=U_ (k:=3) (w:=4) hk rfl hle;generalize hu:l_ 0 (r.take 4)=u at hlt hvd;have hnum:n_ (r.take 4)=IntKind.i64.wrap (u:Int):=(by unfold n_;rw [hu]);rw [hnum];obtain ⟨hi,hi2⟩:=wl_ (u:=u) (by omega);have hi0:IntKind.i64.wrap (u:Int)=(u:Int):=vT_ (by omega) (by omega);rw [hi0];rw [if_pos (show okN 3 u=true from rfl)]at hvd;have hV:Vv ⟨3,H_ u 2147483648,0⟩:=.inr (.inr (.inl ⟨rfl,rfl,hi2⟩));have hM:okM ⟨3,H_ u 2147483648,0⟩=true:=decide_eq_true hi2.symm;have hp:=p49 ⟨3,H_ u 2147483648,0⟩ (λ_=>rfl);rw [hM]at hp;refine vC_ (tK_ Tryz.underlying2 Tryz.underlying21 _) rfl (vC_ (r:=.int .i64 (H_ u 2147483648)) ((tK_ Tryz.underlying21 Tryz.underlying2 _).trans (congrArg (λi=>some (AV.int .i64 i)) hi)) rfl (uG_ hp rfl rfl (vC_ (vw_ ..) rfl (vl_ (t:=false) rfl (λh=>by cases h) (λ_=>vl_ (t:=false) rfl (λh=>by cases h) (λ_=>?_))))));obtain ⟨p,q,m,e1,o1,e2,o2,e3,hm3⟩:=hM_ rfl h hy2 hle hl hV;refine uG_ (p18 hV) rfl (by show okL [cS_ a_ 1 _]=true;simp only [okL,uh_ b_]) (vC_ (k_ h) rfl (vC_ (k_ hy2) rfl (vC_ e1 o1 (vC_ e2 o2 (uG_ e3 rfl rfl (vC_ (vw_ ..) rfl (vl_ rfl (λhq=>?_) (λhq=>?_))))))));have:m=true:=hm3.trans (decide_eq_true (x_ hvd));rw [this]at hq;cases hq;exact vk_ (ok5 rfl rfl rfl (hy2.ok b_)) (R31.yes hvd hyv2);refine vC_ (run_eql ..) rfl (vl_ rfl (λhk=>?_) (λhk4=>?_));have hk:c.toNat=4:=cEq (b:=4) hk;rw [hk];refine ux_ (p28 hy false (λ_=>hyv) (n:=8) (by decide)) (by show okL [y,.bool false,.int .i64 8]=true;simp only [okL,hy.ok b_,okC]) ⟨?_,trivial⟩;rintro ws ⟨u0,y2,b2,rfl,hR2⟩;by_cases hc2:false=true\/r.length<8;rw [if_pos hc2]at hR2;obtain ⟨rfl,rfl,rfl⟩:=hR2;have hn:false=true\/t_ (c::r)=none:=.inr (u_ hk rfl (hc2.resolve_left (by decide)));exact uG_ (p49 ⟨4,0,0⟩ (λ_=>rfl)) rfl rfl (vC_ (vw_ ..) rfl (vl_ (t:=false) rfl (λh=>by cases h) (λ_=>vl_ (t:=true) rfl (λ_=>vk_ rfl (R31.no hn 4 0 0)) (λh=>by cases h))));rw [if_neg hc2]at hR2;obtain ⟨rfl,rfl,hyv2⟩:=hR2;have hy2:By (r.drop 8) y2:=.inl hyv2;have hle:8<=r.length:=(by have:=λe=>hc2 (.inr e);omega);have htl:(r.take 8).length=8:=(by rw [List.length_take];omega);have hlt:=r_ (r.take 8);rw [htl]at hlt;have hvd:=U_ (k:=4) (w:=8) hk rfl hle;generalize hu:l_ 0 (r.take 8)=u at hlt hvd;have hnum:n_ (r.take 8)=IntKind.i64.wrap (u:Int):=(by unfold n_;rw [hu]);rw [hnum];rw [w2_ (u:=u) (by omega)];rw [if_pos (show okN 4 u=true from rfl)]at hvd;have hV:Vv ⟨4,H_ u 9223372036854775808,0⟩:=.inr (.inr (.inr (.inl ⟨rfl,rfl⟩)));refine uG_ (p49 ⟨4,H_ u 9223372036854775808,0⟩ (λ_=>rfl)) rfl rfl (vC_ (vw_ ..) rfl (vl_ (t:=false) rfl (λh=>by cases h) (λ_=>vl_ (t:=false) rfl (λh=>by cases h) (λ_=>?_))));obtain ⟨p,q,m,e1,o1,e2,o2,e3,hm3⟩:=hM_ rfl h hy2 hle hl hV;refine uG_ (p18 hV) rfl (by show okL [cS_ a_ 1 _]=true;simp only [okL,uh_ b_]) (vC_ (k_ h) rfl (vC_ (k_ hy2) rfl (vC_ e1 o1 (vC_ e2 o2 (uG_ e3 rfl rfl (vC_ (vw_ ..) rfl (vl_ rfl (λhq=>?_) (λhq=>?_))))))));have:m=true:=hm3.trans (decide_eq_true (x_ hvd));rw [this]at hq;cases hq;exact vk_ (ok5 rfl rfl rfl (hy2.ok b_)) (R31.yes hvd hyv2);refine vC_ (run_eql ..) rfl (vl_ rfl (λhk=>?_) (λhk5=>?_))
 .have hk:c.toNat=5:=cEq (b:=5) hk;rw [hk];refine ux_ (p28 hy false (λ_=>hyv) (n:=8) (by decide)) (by show okL [y,.bool false,.int .i64 8]=true;simp only [okL,hy.ok b_,okC]) ⟨?_,trivial⟩;rintro ws ⟨u0,y2,b2,rfl,hR2⟩;by_cases hc2:false=true\/r.length<8;rw [if_pos hc2]at hR2;obtain ⟨rfl,rfl,rfl⟩:=hR2;have hn:false=true\/t_ (c::r)=none:=.inr (u_ hk rfl (hc2.resolve_left (by decide)));exact vC_ (tK_ Tryz.underlying2 Tryz.underlying105 _) rfl (uG_ (p48 0) rfl rfl (uG_ (p49 ⟨5,0,0⟩ (λh=>absurd rfl h)) rfl rfl (vC_ (vw_ ..) rfl (vl_ (t:=false) rfl (λh=>by cases h) (λ_=>vl_ (t:=true) rfl (λ_=>vk_ rfl (R31.no hn 5 0 0)) (λh=>by cases h))))));rw [if_neg hc2]at hR2;obtain ⟨rfl,rfl,hyv2⟩:=hR2;have hy2:By (r.drop 8) y2:=.inl hyv2;have hle:8<=r.length:=(by have:=λe=>hc2 (.inr e);omega);have htl:(r.take 8).length=8:=(by rw [List.length_take];omega);have hlt:=r_ (r.take 8);rw [htl]at hlt;have hvd:=U_ (k:=5) (w:=8) hk rfl hle;generalize hu:l_ 0 (r.take 8)=u at hlt hvd;have hnum:n_ (r.take 8)=IntKind.i64.wrap (u:Int):=(by unfold n_;rw [hu]);rw [hnum];have hV:Vv ⟨5,0,u⟩:=.inr (.inr (.inr (.inr ⟨rfl,rfl⟩)));refine vC_ (r:=.int .u64 (u:Int)) ((tK_ Tryz.underlying2 Tryz.underlying105 _).trans (congrArg (λi=>some (AV.int .u64 i)) (we_ (by omega)))) rfl (uG_ (p48 u) rfl rfl (uG_ (p49 ⟨5,0,u⟩ (λh=>absurd rfl h)) rfl rfl (vC_ (vw_ ..) rfl (vl_ (t:=false) rfl (λh=>by cases h) (λ_=>vl_ (t:=false) rfl (λh=>by cases h) (λ_=>?_))))));obtain ⟨p,q,m,e1,o1,e2,o2,e3,hm3⟩:=hM_ rfl h hy2 hle hl hV;refine uG_ (p18 hV) rfl (by show okL [cS_ a_ 1 _]=true;simp only [okL,uh_ b_]) (vC_ (k_ h) rfl (vC_ (k_ hy2) rfl (vC_ e1 o1 (vC_ e2 o2 (uG_ e3 rfl rfl (vC_ (vw_ ..) rfl (vl_ rfl (λhq=>?_) (λhq=>?_))))))));have hq:(!m)=true:=hq;have hne:¬I_ ⟨5,0,u⟩=c::r.take 8:=(by intro e;rw [hm3,decide_eq_true e]at hq;cases hq);refine vk_ rfl (R31.no (.inr ?_) 5 0 u);by_cases hk5:okN 5 u=true;rw [if_pos hk5]at hvd;exact absurd (x_ hvd) hne;rw [hvd,if_neg hk5]
  .have hq:(!m)=false:=hq;have he:I_ ⟨5,0,u⟩=c::r.take 8:=(by by_cases e:I_ ⟨5,0,u⟩=c::r.take 8;exact e;rw [hm3,decide_eq_false e]at hq;cases hq);have hb:j_ (bt_ u) 8=r.take 8:=(List.cons.inj he).2;have hu2:(u:Int)=bt_ u%((256^8:Nat):Int):=(by rw [←D_,hb,hu]);have hk5:okN 5 u=true:=by
    show (!nan u||decide (u=9221120237041090561))=true;cases hn:nan u with
    |false=>rfl
    |true=>unfold bt_ at hu2;rw [if_pos hn]at hu2;have:u=9221120237041090561:=(by omega);rw [decide_eq_true this];rfl
   rw [if_pos hk5]at hvd;exact vk_ (ok5 rfl rfl rfl (hy2.ok b_)) (R31.yes hvd hyv2)
 have hk1:=cNe (b:=1) hk1;have hk2:=cNe (b:=2) hk2;have hk3:=cNe (b:=3) hk3;have hk4:=cNe (b:=4) hk4;have hk5:=cNe (b:=5) hk5;have hM:okM ⟨c.toNat,0,0⟩=false:=by show (if c.toNat=5 then _ else if c.toNat=1 then _ else if c.toNat=2 then _ else if c.toNat=3 then _ else decide (c.toNat=4))=false;rw [if_neg hk5,if_neg hk1,if_neg hk2,if_neg hk3,decide_eq_false hk4]
 have hp:=p49 ⟨c.toNat,0,0⟩ (λ_=>rfl);rw [hM]at hp;have hvd:t_ (c::r)=none:=by rw [y_];exact if_neg λe=>by rcases kinds e.2 with h|h|h|h|h<;>omega
 exact uG_ hp rfl rfl (vC_ (vw_ ..) rfl (vl_ (t:=true) rfl (λ_=>vk_ rfl (R31.no (.inr hvd) c.toNat 0 0)) (λh=>by cases h)))
def c20:VC:=⟨⟨[],[]⟩,[(29,[none])],[],1,true,[(28,ft28),(30,ft30),(31,ft31)]⟩
def t20:VT:=Cf 28 ft28 [64,65,J 1] 66 3<|Li (.bin .rem 3 false true) [69,J 9] 72<|It Q2 [72,J 0] 73 (Dn [72,J 0,J 0,.nsl,J 0,J 0,.flt .f64 0,.bool false,70,71])<|Cf 28 ft28 [70,71,J 1] 74 3<|It Q2 [72,J 3] 80 (Cf 28 ft28 [78,79,J 2] 81 3<|Cf 30 ft30 [85,86,84] 87 3<|.call 29 [90] 93 [none]<|Dn [72,77,J 0,93,J 0,J 0,.flt .f64 0,.bool true,91,92])<|It Q2 [72,J 6] 81 (Cf 28 ft28 [78,79,J 4] 82 3<|Dn [72,77,85,.nsl,J 0,J 0,.flt .f64 0,.bool true,86,87])<|It Q2 [72,J 8] 82 (Cf 31 ft31 [78,79] 83 5<|Dn [72,77,J 0,.nsl,85,86,87,.bool true,88,89])<|Dn [72,77,J 0,.nsl,J 0,J 0,.flt .f64 0,.bool true,78,79]
def bAV:Option (List UInt8)->AV
 |none=>.nsl
 |some l=>nh_ a_ 1 l
def e_ (s:PS):List AV:=[.int .i64 (s.k:Int),.int .i64 (s.a.toNat:Int),.int .i64 (s.n:Int),bAV s.b,.int .i64 (s.v.k:Int),.int .i64 s.v.i,.flt .f64 s.v.f]
theorem uQ_ (s:PS):(e_ s).length=7:=rfl
theorem okB (b:Option (List UInt8)):okC (bAV b)=true:=by
 cases b with
 |none=>rfl
 |some l=>exact si_ b_ l
theorem okP (s:PS):okL (e_ s)=true:=by simp only [e_,okL,okC,okB]
def o_:List UInt8->Option (Option PS×List UInt8)
 |[]=>none
 |k::r=>if k.toNat%9=0 then some (none,r)else match r with
  |[]=>none
  |a::r=>match h_ (k.toNat%9) a r with
   |none=>none
   |some (s,r')=>some (some s,r')
theorem ws_ (k:UInt8) (r:List UInt8):d_ (k::r)=match o_ (k::r)with
  |none=>[]
  |some (none,r')=>d_ r'
  |some (some s,r')=>s::d_ r':=by
 by_cases hk:k.toNat%9=0;rw [W_ hk];simp only [o_,hk,if_true]
 .cases r with
  |nil=>rw [eq_ hk];simp only [o_,hk,if_false]
  |cons a r=>
   rw [C_ hk];simp only [o_,hk,if_false];cases h_ (k.toNat%9) a r with
   |none=>rfl
   |some p=>rfl
def R20 (l:List UInt8):Nat->List AV->Prop:=λ_ ws=>∃(c0 c1 c2 c3 c4 c5 c6:AV) (o:Bool) (y:AV) (b:Bool),ws=[c0,c1,c2,c3,c4,c5,c6,.bool o,y,.bool b]/\(match o_ l with
 |none=>b=true
 |some (none,r)=>o=false/\b=false/\y=nh_ a_ 1 r
 |some (some s,r)=>o=true/\b=false/\y=nh_ a_ 1 r/\[c0,c1,c2,c3,c4,c5,c6]=e_ s)
theorem R20.no {l:List UInt8} (h:o_ l=none) (c0 c1 c2 c3 c4 c5 c6:AV) (o:Bool) (y:AV):R20 l 0 [c0,c1,c2,c3,c4,c5,c6,.bool o,y,.bool true]:=by refine ⟨c0,c1,c2,c3,c4,c5,c6,o,y,true,rfl,?_⟩;rw [h]
theorem R20.yes {l r:List UInt8} {s:PS} (h:o_ l=some (some s,r)):R20 l 0 (e_ s++[.bool true,nh_ a_ 1 r,.bool false]):=by refine ⟨_,_,_,_,_,_,_,true,nh_ a_ 1 r,false,rfl,?_⟩;rw [h];exact ⟨rfl,rfl,rfl,rfl⟩
theorem X_ {c0 c1 c2 c3 c4 c5 c6 y:AV} {o b:Bool} (h:okL [c0,c1,c2,c3,c4,c5,c6]=true) (hy:okC y=true):okL [c0,c1,c2,c3,c4,c5,c6,.bool o,y,.bool b]=true:=by have e:[c0,c1,c2,c3,c4,c5,c6,.bool o,y,.bool b]=[c0,c1,c2,c3,c4,c5,c6]++[.bool o,y,.bool b]:=rfl;rw [e];exact kU_.okL_join h (by simp only [okL,okC,hy])
theorem ok7 {k a n:Int} {B:AV} {vk vi:Int} {f:Nat} (h:okC B=true):okL [.int .i64 k,.int .i64 a,.int .i64 n,B,.int .i64 vk,.int .i64 vi,.flt .f64 f]=true:=by simp only [okL,okC,h]
theorem xz_ (c:UInt8):(XOp.bin .rem 3 false true).run Tryz.prog [.int .i64 (c.toNat:Int),.int .i64 9]=some (.int .i64 ((c.toNat%9:Nat):Int)):=by rw [va_ (by decide)];rfl
theorem vQ_ {y:AV} (b:Bool) (n:Int) (h:okC y=true):okL [y,.bool b,.int .i64 n]=true:=by simp only [okL,h,okC]
theorem p20 {k:UInt8} {r:List UInt8} (hl:(k::r).length<=1000):CF Tryz.prog 20 ft20 [nh_ a_ 1 (k::r),.bool false] (R20 (k::r)):=by
 have hx:By (k::r) (nh_ a_ 1 (k::r)):=SlV.v _;refine vn_ (c:=c20) (n:=300) (t:=t20) mox ov rfl (λY _=>vK_ _) (by kernel_rfl) λY hf hg=>?_;unfold t20;refine ux_ (p28 hx false (λ_=>rfl) (n:=1) (by decide)) (vQ_ false 1 (si_ b_ _)) ⟨?_,trivial⟩;rintro ws ⟨k0,y,b,rfl,hR⟩;rw [if_neg (λh=>h.elim (λh=>by cases h) (λh=>by simp at h))]at hR;obtain ⟨rfl,rfl,hy⟩:=hR;have hy:y=nh_ a_ 1 r:=hy;subst hy;have hk0:n_ ((k::r).take 1)=(k.toNat:Int):=by show n_ [k]=_;rw [s_ (by show 1<=7;decide),p3_]
 rw [hk0];refine vC_ (xz_ k) rfl (vC_ (run_eql ..) rfl (vl_ rfl (λhz=>?_) (λhz=>?_)));have hz:=cEq (b:=0) hz;refine vk_ (X_ (ok7 rfl) (si_ b_ _)) ⟨_,_,_,_,_,_,_,_,_,_,rfl,?_⟩;rw [show o_ (k::r)=some (none,r) from if_pos hz];exact ⟨rfl,rfl,rfl⟩;have hz:=cNe (b:=0) hz;have hK:=Nat.mod_lt k.toNat (show 0<9 by decide);generalize hKd:k.toNat%9=K at hz hK;refine ux_ (p28 (SlV.v r) false (λ_=>rfl) (n:=1) (by decide)) (vQ_ false 1 (si_ b_ _)) ⟨?_,trivial⟩;rintro ws ⟨a0,y2,b2,rfl,hR2⟩;cases r with
 |nil=>
  rw [if_pos (.inr (by decide))]at hR2;obtain ⟨rfl,rfl,rfl⟩:=hR2;have hn:o_ [k]=none:=by show (if k.toNat%9=0 then some (none,[])else none)=none;exact if_neg (by omega)
  have hnil:By [] AV.nsl:=.inr ⟨rfl,rfl⟩;refine vC_ (run_eql ..) rfl (vl_ rfl (λh3=>?_) (λh3=>vC_ (run_eql ..) rfl (vl_ rfl (λh6=>?_) (λh6=>vC_ (run_eql ..) rfl (vl_ rfl (λh8=>?_) (λh8=>vk_ (X_ (ok7 rfl) rfl) (R20.no hn _ _ _ _ _ _ _ _ _)))))));refine ux_ (p28 hnil true (λh=>by cases h) (n:=2) (by decide)) rfl ⟨?_,trivial⟩;rintro ws ⟨v,y3,b3,rfl,hR3⟩;rw [if_pos (.inl rfl)]at hR3;obtain ⟨rfl,rfl,rfl⟩:=hR3;refine ux_ (p30 hnil true (λh=>by cases h) (n:=0) (by decide)) rfl ⟨?_,trivial⟩;rintro ws ⟨z,y4,b4,rfl,hR4⟩;rw [if_pos (.inl rfl)]at hR4;obtain ⟨rfl,rfl,rfl⟩:=hR4;exact uG_ (p29 (SlV.v _) (by decide)) rfl rfl (vk_ (X_ (ok7 (si_ b_ _)) rfl) (R20.no hn _ _ _ _ _ _ _ _ _));refine ux_ (p28 hnil true (λh=>by cases h) (n:=4) (by decide)) rfl ⟨?_,trivial⟩;rintro ws ⟨v,y3,b3,rfl,hR3⟩;rw [if_pos (.inl rfl)]at hR3;obtain ⟨rfl,rfl,rfl⟩:=hR3;exact vk_ (X_ (ok7 rfl) rfl) (R20.no hn _ _ _ _ _ _ _ _ _);refine ux_ (p31 hnil true (λh=>by cases h) (by decide)) rfl ⟨?_,trivial⟩;rintro ws ⟨vk,vi,vf,y3,b3,rfl,hR3⟩;obtain ⟨rfl,rfl⟩:=hR3;exact vk_ (X_ (ok7 rfl) rfl) (R20.no hn _ _ _ _ _ _ _ _ _)
 |cons a r=>
  rw [if_neg (λh=>h.elim (λh=>by cases h) (λh=>by simp at h))]at hR2;obtain ⟨rfl,rfl,hy2⟩:=hR2;have hy2:y2=nh_ a_ 1 r:=hy2;subst hy2;have ha0:n_ ((a::r).take 1)=(a.toNat:Int):=by show n_ [a]=_;rw [s_ (by show 1<=7;decide),p3_]
  rw [ha0];have hr:r.length<=998:=(by simp at hl;omega);have hO:o_ (k::a::r)=match h_ K a r with
    |none=>none
    |some (s,r')=>some (some s,r'):=by
   show (if k.toNat%9=0 then some (none,a::r)else match h_ (k.toNat%9) a r with
    |none=>none
    |some (s,r')=>some (some s,r'))=_
   rw [hKd,if_neg hz]
  refine vC_ (run_eql ..) rfl (vl_ rfl (λh3=>?_) (λh3=>vC_ (run_eql ..) rfl (vl_ rfl (λh6=>?_) (λh6=>vC_ (run_eql ..) rfl (vl_ rfl (λh8=>?_) (λh8=>?_))))))
  .have h3:K=3:=cEq (b:=3) h3;subst h3;refine ux_ (p28 (SlV.v r) false (λ_=>rfl) (n:=2) (by decide)) (vQ_ false 2 (si_ b_ _)) ⟨?_,trivial⟩;rintro ws ⟨v,y3,b3,rfl,hR3⟩;by_cases hc:false=true\/r.length<2
   .rw [if_pos hc]at hR3;obtain ⟨rfl,rfl,rfl⟩:=hR3;have hn:o_ (k::a::r)=none:=by
     have hD3:h_ 3 a r=if 2<=r.length/\l_ 0 (r.take 2)<=(r.drop 2).length then some (⟨3,a,0,some ((r.drop 2).take (l_ 0 (r.take 2))),v0⟩,(r.drop 2).drop (l_ 0 (r.take 2)))else none:=rfl
     rw [hO,hD3,if_neg λe=>by have:=hc.resolve_left (by decide);omega]
    refine ux_ (p30 (l:=[]) (.inr ⟨rfl,rfl⟩) true (λh=>by cases h) (n:=0) (by decide)) rfl ⟨?_,trivial⟩;rintro ws ⟨z,y4,b4,rfl,hR4⟩;rw [if_pos (.inl rfl)]at hR4;obtain ⟨rfl,rfl,rfl⟩:=hR4;exact uG_ (p29 (SlV.v _) (by decide)) rfl rfl (vk_ (X_ (ok7 (si_ b_ _)) rfl) (R20.no hn _ _ _ _ _ _ _ _ _))
   .rw [if_neg hc]at hR3;obtain ⟨rfl,rfl,rfl⟩:=hR3;have hle:2<=r.length:=by have:=λe=>hc (.inr e);omega
    have ht:(r.take 2).length=2:=(by rw [List.length_take];omega);have hlt:=r_ (r.take 2);rw [ht]at hlt;have hnv:n_ (r.take 2)=(l_ 0 (r.take 2):Int):=s_ (by omega);rw [hnv];have hD:h_ 3 a r=if 2<=r.length/\l_ 0 (r.take 2)<=(r.drop 2).length then some (⟨3,a,0,some ((r.drop 2).take (l_ 0 (r.take 2))),v0⟩,(r.drop 2).drop (l_ 0 (r.take 2)))else none:=rfl
    generalize hu:l_ 0 (r.take 2)=u at hlt hD;refine ux_ (p30 (SlV.v (r.drop 2)) false (λ_=>rfl) (n:=u) (by omega)) (vQ_ false _ (si_ b_ _)) ⟨?_,trivial⟩;rintro ws ⟨z,y4,b4,rfl,hR4⟩;by_cases hc4:false=true\/(r.drop 2).length<u
    .rw [if_pos hc4]at hR4;obtain ⟨rfl,rfl,rfl⟩:=hR4;have hn:o_ (k::a::r)=none:=by rw [hO,hD,if_neg λe=>by have:=hc4.resolve_left (by decide);omega]
     exact uG_ (p29 (SlV.v _) (by rw [List.length_replicate];omega)) rfl (by show okL [nh_ a_ 1 _]=true;simp only [okL,si_ b_]) (vk_ (X_ (ok7 (si_ b_ _)) rfl) (R20.no hn _ _ _ _ _ _ _ _ _))
    .rw [if_neg hc4]at hR4;obtain ⟨rfl,rfl,rfl⟩:=hR4;have hle4:u<=(r.drop 2).length:=by have:=λe=>hc4 (.inr e);omega
     have hy:o_ (k::a::r)=some (some ⟨3,a,0,some ((r.drop 2).take u),v0⟩,(r.drop 2).drop u):=(by rw [hO,hD,if_pos ⟨hle,hle4⟩]);exact uG_ (p29 (SlV.v _) (by rw [List.length_take,List.length_drop];omega)) rfl (by show okL [nh_ a_ 1 _]=true;simp only [okL,si_ b_]) (vk_ (X_ (ok7 (si_ b_ _)) (si_ b_ _)) (R20.yes hy))
  .have h6:K=6:=cEq (b:=6) h6;subst h6;refine ux_ (p28 (SlV.v r) false (λ_=>rfl) (n:=4) (by decide)) (vQ_ false 4 (si_ b_ _)) ⟨?_,trivial⟩;rintro ws ⟨v,y3,b3,rfl,hR3⟩;have hD:h_ 6 a r=if 4<=r.length then some (⟨6,a,l_ 0 (r.take 4),none,v0⟩,r.drop 4)else none:=rfl
   by_cases hc:false=true\/r.length<4
   .rw [if_pos hc]at hR3;obtain ⟨rfl,rfl,rfl⟩:=hR3;have hn:o_ (k::a::r)=none:=by rw [hO,hD,if_neg λe=>by have:=hc.resolve_left (by decide);omega]
    exact vk_ (X_ (ok7 rfl) rfl) (R20.no hn _ _ _ _ _ _ _ _ _)
   .rw [if_neg hc]at hR3;obtain ⟨rfl,rfl,rfl⟩:=hR3;have hle:4<=r.length:=by have:=λe=>hc (.inr e);omega
    have ht:(r.take 4).length=4:=(by rw [List.length_take];omega);have hnv:n_ (r.take 4)=(l_ 0 (r.take 4):Int):=s_ (by omega);rw [hnv];have hy:o_ (k::a::r)=some (some ⟨6,a,l_ 0 (r.take 4),none,v0⟩,r.drop 4):=(by rw [hO,hD,if_pos hle]);exact vk_ (X_ (ok7 rfl) (si_ b_ _)) (R20.yes hy)
  .have h8:K=8:=cEq (b:=8) h8;subst h8;refine ux_ (p31 (SlV.v r) false (λ_=>rfl) (by omega)) (by show okL [nh_ a_ 1 r,.bool false]=true;simp only [okL,si_ b_,okC]) ⟨?_,trivial⟩;rintro ws ⟨vk,vi,vf,y3,b3,rfl,hR3⟩;have hD:h_ 8 a r=match t_ r with
    |some (v,r')=>some (⟨8,a,0,none,v⟩,r')
    |none=>none:=rfl
   have hR3:(match t_ r with
    |some (v,r)=>b3=false/\v=⟨vk,vi,vf⟩/\y3=nh_ a_ 1 r
    |none=>b3=true/\y3=.nsl):=hR3
   cases hv:t_ r with
   |none=>rw [hv]at hR3 hD;obtain ⟨rfl,rfl⟩:=hR3;exact vk_ (X_ (ok7 rfl) rfl) (R20.no (by rw [hO,hD]) _ _ _ _ _ _ _ _ _)
   |some p=>obtain ⟨v,r'⟩:=p;rw [hv]at hR3 hD;obtain ⟨rfl,rfl,rfl⟩:=hR3;have hy:o_ (k::a::r)=some (some ⟨8,a,0,none,⟨vk,vi,vf⟩⟩,r'):=(by rw [hO,hD]);exact vk_ (X_ (ok7 rfl) (si_ b_ _)) (R20.yes hy)
  have h3:=cNe (b:=3) h3;have h6:=cNe (b:=6) h6;have h8:=cNe (b:=8) h8;have hD:h_ K a r=some (⟨K,a,0,none,v0⟩,r):=(by unfold h_;rw [if_neg h3,if_neg h6,if_neg h8]);have hy:o_ (k::a::r)=some (some ⟨K,a,0,none,v0⟩,r):=(by rw [hO,hD]);exact vk_ (X_ (ok7 rfl) (si_ b_ _)) (R20.yes hy)
def c9:VC:=⟨⟨[],[]⟩,[],[(0,[⟨[(2,.slx 1 7 0),(3,.ptr 0 0)],[(0,[.slx 1 0 0,.slx 2 0 0])],2,3,[⟨1,7,0,2,none⟩],[],[]⟩])],0,true,[(20,ft20)]⟩
def t9:VT:=.loop 65 0 [.nsl,64,.bool false] (.cons 3 (Li Q1 [66] 68<|It Qg [68,J 0] 69 (Cf 20 ft20 [66,67] 70 10<|.ite 81 (.done (65))<|.ite 79 (Li Qx [65,.agg [72,73,74,75,76,77,78]] 82<|.again 0 0 [82,80,81])<|.again 0 0 [65,80,81])<|.done (65)) .nil)
theorem u8_ {k:UInt8} {r r':List UInt8} {o:Option PS} (h:o_ (k::r)=some (o,r')):r'.length<(k::r).length:=by
 have h:(if k.toNat%9=0 then some (none,r)else match r with
  |[]=>none
  |a::r=>match h_ (k.toNat%9) a r with
   |none=>none
   |some (s,r')=>some (some s,r'))=some (o,r'):=h
 by_cases hk:k.toNat%9=0
 .rw [if_pos hk]at h;injection h with h
  injection h with _ h
  subst h;simp
 .rw [if_neg hk]at h;cases r with
  |nil=>cases h
  |cons a r=>
   have h:(match h_ (k.toNat%9) a r with
    |none=>none
    |some (s,r')=>some (some s,r'))=some (o,r'):=h
   cases hd:h_ (k.toNat%9) a r with
   |none=>rw [hd]at h;cases h
   |some p=>
    obtain ⟨s,r2⟩:=p;rw [hd]at h;injection h with h
    injection h with _ h
    subst h;have:=F_ hd;simp;omega
theorem v7_ (l:List PS):l.length<=(g_ l).length:=by
 induction l with
 |nil=>exact Nat.le_refl _
 |cons s l ih=>show l.length+1<=(i_ s++g_ l).length;rw [List.length_append];have:1<=(i_ s).length:=(by show 1<=(m_ s).length+1+1;omega);omega
theorem bp_ (l:List UInt8):(d_ l).length<=l.length:=Nat.le_trans (v7_ _) (w_ _ l (Nat.le_refl _))
structure DS where
 a:List PS
 r:List UInt8
 nl:Bool
def DS.y (q:DS):AV:=match q.nl with
 |true=>.nsl
 |false=>nh_ a_ 1 q.r
def DS.st (q:DS):List AV:=[cS_ e_ 7 q.a,q.y,.bool false]
structure DOk (l:List UInt8) (q:DS):Prop where
 n:q.nl=true->q.r=[]
 e:q.a++d_ q.r=d_ l
theorem DS.by' {l:List UInt8} {q:DS} (h:DOk l q):By q.r q.y:=by
 obtain ⟨a,r,nl⟩:=q;cases nl with
 |true=>exact .inr ⟨h.n rfl,rfl⟩
 |false=>exact SlV.v _
theorem DS.len {l:List UInt8} {q q':DS} (h:DOk l q) (h':DOk l q') (e:q.st=q'.st):q.r.length=q'.r.length:=by
 obtain ⟨a,r,nl⟩:=q;obtain ⟨a',r',nl'⟩:=q';have e:=(List.cons.inj (List.cons.inj e).2).1;cases nl<;>cases nl'
 have e:AV.vsl r.length 1 (bR_ a_ r)=AV.vsl r'.length 1 (bR_ a_ r'):=e;injection e;cases e;cases e;rw [show r=[] from h.n rfl,show r'=[] from h'.n rfl]
theorem p9 {l:List UInt8} {x:AV} (h:By l x) (hl:l.length<=1000):ic_ Tryz.prog 9 [x] (cS_ e_ 7 (d_ l)):=by
 have hx:=h.ok b_;refine ua_ (sh:=[none]) (ls:=[x]) (c:=c9) (n:=300) (t:=t9) mox ov (by rcases h with rfl|⟨_,rfl⟩<;>rfl) (by simp only [okL,hx]) (qa_ (uh_ okP _)) (λY _=>vK_ _) rfl (by kernel_rfl) λY hf hg=>?_;unfold t9;obtain ⟨q0,hq0,e0,hr0⟩:∃q0:DS,DOk l q0/\[.nsl,x,.bool false]=q0.st/\q0.r=l:=by rcases h with rfl|⟨rfl,rfl⟩;exact ⟨⟨[],l,false⟩,⟨(λh=>by cases h),rfl⟩,rfl,rfl⟩;exact ⟨⟨[],[],true⟩,⟨λ_=>rfl,rfl⟩,rfl,rfl⟩
 refine uI_ (ι:=DS) DS.st (λq=>DOk l q/\q.r.length<=l.length) (λq=>q.r.length) q0 ⟨hq0,by rw [hr0];exact Nat.le_refl _⟩ e0 (λq hq=>by show okL [cS_ e_ 7 q.a,q.y,.bool false]=true;simp only [okL,okC,uh_ okP,(DS.by' hq.1).ok b_]) (λq q' hq hq' e=>DS.len hq.1 hq'.1 e) (λq hq=>?_);obtain ⟨hq,hle⟩:=hq;refine vC_ (k_ (DS.by' hq)) rfl (vC_ (run_gtr ..) rfl (vl_ rfl (λhp=>?_) (λhp=>uH_ ?_)))
 .have hp:(0:Int)<(q.r.length:Int):=of_decide_eq_true hp;obtain ⟨a,r,nl⟩:=q;have he:a++d_ r=d_ l:=hq.e;have hnl:nl=false:=by
   cases nl with
   |false=>rfl
   |true=>rw [show (DS.mk a r true).r=[] from hq.n rfl]at hp;simp at hp
  subst hnl;have hp:(0:Int)<(r.length:Int):=hp;have hle:r.length<=l.length:=hle;obtain ⟨k,r,rfl⟩:∃k r',r=k::r':=by
   cases r with
   |nil=>simp at hp
   |cons k r=>exact ⟨k,r,rfl⟩
  have hal:a.length<=l.length:=(by have h1:=congrArg List.length he;have h2:=bp_ l;rw [List.length_append]at h1;omega);refine ux_ (p20 (k:=k) (r:=r) (by omega)) (by show okL [nh_ a_ 1 (k::r),.bool false]=true;simp only [okL,okC,si_ b_]) ⟨?_,trivial⟩;rintro ws ⟨c0,c1,c2,c3,c4,c5,c6,o,y,b,rfl,hR⟩;have hO:=ws_ k r;cases hs:o_ (k::r)with
  |none=>rw [hs]at hR hO;have hR:b=true:=hR;subst hR;refine vl_ (t:=true) rfl (λ_=>uH_ ?_) (λh=>by cases h);show cS_ e_ 7 a=cS_ e_ 7 (d_ l);rw [←he,hO,List.append_nil]
  |some p=>
   obtain ⟨os,r'⟩:=p;have hlt:=u8_ hs;rw [hs]at hR hO;cases os with
   |none=>obtain ⟨rfl,rfl,rfl⟩:=hR;refine vl_ (t:=false) rfl (λh=>by cases h) (λ_=>vl_ (t:=false) rfl (λh=>by cases h) (λ_=>uw_ rfl ⟨⟨a,r',false⟩,⟨⟨(λh=>by cases h),?_⟩,?_⟩,rfl,hlt⟩));show a++d_ r'=d_ l;rw [←he,hO];show r'.length<=l.length;omega
   |some s=>
    obtain ⟨rfl,rfl,rfl,hc⟩:=hR;injection hc with e0 hc
    injection hc with e1 hc
    injection hc with e2 hc
    injection hc with e3 hc
    injection hc with e4 hc
    injection hc with e5 hc
    injection hc with e6 _
    subst e0 e1 e2 e3 e4 e5 e6;refine vl_ (t:=false) rfl (λh=>by cases h) (λ_=>vl_ (t:=true) rfl (λ_=>vC_ (ud_ uQ_ (by decide) (by decide) a s (by omega)) (uh_ okP _) (uw_ rfl ⟨⟨a++[s],r',false⟩,⟨⟨(λh=>by cases h),?_⟩,?_⟩,rfl,hlt⟩)) (λh=>by cases h));show (a++[s])++d_ r'=d_ l;rw [←he,hO,List.append_assoc];rfl;show r'.length<=l.length;omega
 have hp:¬(0:Int)<(q.r.length:Int):=of_decide_eq_false hp;have hr:q.r=[]:=List.length_eq_zero_iff.1 (by omega);have he:=hq.e;rw [hr,O_,List.append_nil]at he;show cS_ e_ 7 q.a=cS_ e_ 7 (d_ l);rw [he]
def c27:VC:=⟨⟨[],[]⟩,[(47,[none])],[],0,true,[]⟩
def t27:VT:=.call 47 [64] 66 [none]<|.call 47 [65] 67 [none]<|Li Z7 [66,67] 68<|.done (68)
def c19:VC:=⟨⟨[],[]⟩,[(26,[none]),(27,[none])],[],0,true,[]⟩
def t19:VT:=It Qb [64,71] 78 (It Qb [65,72] 79 (It Qc [66,73] 80 (.call 26 [67,74] 81 [none]<|.ite 81 (It Qb [68,75] 82 (It Qc [69,76] 83 (.call 27 [70,77] 84 [none]<|.done (84))<|.done (.bool false))<|.done (.bool false))<|.done (.bool false))<|.done (.bool false))<|.done (.bool false))<|.done (.bool false)
def c50:VC:=⟨⟨[],[]⟩,[],[],0,true,[]⟩
def t50:VT:=It Z4 [64,64] 65 (.done (.int .u64 9221120237041090561))<|Li (.ext 86) [64] 66<|.done (66)
def c32:VC:=⟨⟨[],[]⟩,[(50,[none])],[],0,true,[]⟩
def t32:VT:=.call 50 [64] 66 [none]<|.call 50 [65] 67 [none]<|Li Z7 [66,67] 68<|.done (68)
def c21:VC:=⟨⟨[],[]⟩,[(32,[none])],[],0,true,[]⟩
def t21:VT:=It Qb [64,67] 70 (It Qc [65,68] 71 (.call 32 [66,69] 72 [none]<|.done (72))<|.done (.bool false))<|.done (.bool false)
theorem p27 (n:Nat):ic_ Tryz.prog 27 [.flt .f64 n,.flt .f64 n] (.bool true):=by refine ua_ (sh:=[none,none]) (ls:=[.flt .f64 n,.flt .f64 n]) (c:=c27) (n:=300) (t:=t27) mox ov rfl rfl rfl (λY _=>vK_ _) rfl (by kernel_rfl) λY hf hg=>?_;unfold t27;exact uG_ (p47 n) rfl rfl (uG_ (p47 n) rfl rfl (vC_ (run_eql ..) rfl (uH_ (congrArg AV.bool (decide_eq_true rfl)))))
theorem p50 (n:Nat):ic_ Tryz.prog 50 [.flt .f64 n] (.int .u64 (bt_ n)):=by refine ua_ (sh:=[none]) (ls:=[.flt .f64 n]) (c:=c50) (n:=300) (t:=t50) mox ov rfl rfl rfl (λY _=>vK_ _) rfl (by kernel_rfl) λY hf hg=>?_;unfold t50;refine vC_ (uC_ ..) rfl (vl_ rfl (λh=>uH_ ?_) (λh=>vC_ (wj_ n) rfl (uH_ ?_)));have h:nan n=true:=h;exact congrArg (AV.int .u64) (if_pos h).symm;have h:nan n=false:=h;exact congrArg (AV.int .u64) (if_neg (by rw [h];exact Bool.false_ne_true)).symm
theorem p32 (n:Nat):ic_ Tryz.prog 32 [.flt .f64 n,.flt .f64 n] (.bool true):=by refine ua_ (sh:=[none,none]) (ls:=[.flt .f64 n,.flt .f64 n]) (c:=c32) (n:=300) (t:=t32) mox ov rfl rfl rfl (λY _=>vK_ _) rfl (by kernel_rfl) λY hf hg=>?_;unfold t32;exact uG_ (p50 n) rfl rfl (uG_ (p50 n) rfl rfl (vC_ (run_eql ..) rfl (uH_ (congrArg AV.bool (decide_eq_true rfl)))))
theorem p21 (v:PV):ic_ Tryz.prog 21 [.agg (lF_ v),.agg (lF_ v)] (.bool true):=by refine ua_ (sh:=[some 3,some 3]) (ls:=lF_ v++lF_ v) (c:=c21) (n:=300) (t:=t21) mox ov rfl rfl rfl (λY _=>vK_ _) rfl (by kernel_rfl) λY hf hg=>?_;unfold t21;refine vC_ (run_eql ..) rfl (vl_ rfl (λ_=>vC_ (run_eql ..) rfl (vl_ rfl (λ_=>uG_ (p32 v.f) rfl rfl (uH_ rfl)) (λh=>?_))) (λh=>?_));exact absurd (of_decide_eq_false h) (λe=>e rfl);exact absurd (of_decide_eq_false h) (λe=>e rfl)
def G_ (s:PS) (B:AV):List AV:=[.int .i64 (s.k:Int),.int .i64 (s.a.toNat:Int),.int .i64 (s.n:Int),B,.int .i64 (s.v.k:Int),.int .i64 s.v.i,.flt .f64 s.v.f]
theorem okX (s:PS) {B:AV} (h:okC B=true):okL (G_ s B)=true:=by simp only [G_,okL,okC,h]
theorem p19 (s:PS) {l:List UInt8} {B C:AV} (hB:By l B) (hC:By l C) (hl:l.length<=1000000):ic_ Tryz.prog 19 [.agg (G_ s B),.agg (G_ s C)] (.bool true):=by refine ua_ (sh:=[some 7,some 7]) (ls:=G_ s B++G_ s C) (c:=c19) (n:=300) (t:=t19) mox ov rfl (kU_.okL_join (okX s (hB.ok b_)) (okX s (hC.ok b_))) rfl (λY _=>vK_ _) rfl (by kernel_rfl) λY hf hg=>?_;have he:=p26 hB hC hl;rw [decide_eq_true rfl]at he;unfold t19;refine vC_ (run_eql ..) rfl (vl_ rfl (λ_=>vC_ (run_eql ..) rfl (vl_ rfl (λ_=>vC_ (run_eql ..) rfl (vl_ rfl (λ_=>uG_ he rfl rfl (vl_ (t:=true) rfl (λ_=>vC_ (run_eql ..) rfl (vl_ rfl (λ_=>vC_ (run_eql ..) rfl (vl_ rfl (λ_=>uG_ (p27 s.v.f) rfl rfl (uH_ rfl)) (λh=>?_))) (λh=>?_))) (λh=>by cases h))) (λh=>?_))) (λh=>?_))) (λh=>?_))<;>exact absurd (of_decide_eq_false h) (λe=>e rfl)
def c8:VC:=⟨⟨[],[]⟩,[(17,[none]),(18,[none]),(16,[none]),(9,[none]),(19,[none])],[(0,[⟨[(9,.slx 0 0 0),(2,.slx 0 1 1),(7,64),(8,65)],[],1,2,[⟨0,1,1,2,none⟩],[],[]⟩])],0,true,[]⟩
def t8:VT:=Li Q8 [64] 65<|.loop 66 0 [J 0,.nsl] (.cons 2 (It Qd [66,65] 68 (Li Q9 [64,66] 69<|.lt Qa [69] 70 (some 7)<|Li Qw [70] 77<|Li Qw [71] 78<|It Q2 [70,J 3] 79 (Li Q1 [73] 80<|.call 17 [80,J 2] 81 [none]<|.call 16 [.vsl 3 1 [.vsl 2 1 [77,78],81,73]] 82 [none]<|.call 9 [82] 83 [none]<|Li Q8 [83] 84<|It Q2 [84,J 1] 85 (Li Q9 [83,J 0] 86<|.lt Qa [86] 87 (some 7)<|.call 19 [.agg [87,88,89,90,91,92,93],.agg [70,71,72,73,74,75,76]] 94 [none]<|.ite 94 (Li Q6 [67,82] 95<|Li Q7 [66,J 1] 96<|.again 0 0 [96,95])<|Li Q7 [66,J 1] 95<|.again 0 0 [95,67])<|Li Q7 [66,J 1] 86<|.again 0 0 [86,67])<|It Q2 [70,J 6] 80 (.call 17 [72,J 4] 81 [none]<|Li Q6 [.vsl 2 1 [77,78],81] 82<|.call 9 [82] 83 [none]<|Li Q8 [83] 84<|It Q2 [84,J 1] 85 (Li Q9 [83,J 0] 86<|.lt Qa [86] 87 (some 7)<|.call 19 [.agg [87,88,89,90,91,92,93],.agg [70,71,72,73,74,75,76]] 94 [none]<|.ite 94 (Li Q6 [67,82] 95<|Li Q7 [66,J 1] 96<|.again 0 0 [96,95])<|Li Q7 [66,J 1] 95<|.again 0 0 [95,67])<|Li Q7 [66,J 1] 86<|.again 0 0 [86,67])<|It Q2 [70,J 8] 81 (.call 18 [.agg [74,75,76]] 82 [none]<|Li Q6 [.vsl 2 1 [77,78],82] 83<|.call 9 [83] 84 [none]<|Li Q8 [84] 85<|It Q2 [85,J 1] 86 (Li Q9 [84,J 0] 87<|.lt Qa [87] 88 (some 7)<|.call 19 [.agg [88,89,90,91,92,93,94],.agg [70,71,72,73,74,75,76]] 95 [none]<|.ite 95 (Li Q6 [67,83] 96<|Li Q7 [66,J 1] 97<|.again 0 0 [97,96])<|Li Q7 [66,J 1] 96<|.again 0 0 [96,67])<|Li Q7 [66,J 1] 87<|.again 0 0 [87,67])<|.call 9 [.vsl 2 1 [77,78]] 82 [none]<|Li Q8 [82] 83<|It Q2 [83,J 1] 84 (Li Q9 [82,J 0] 85<|.lt Qa [85] 86 (some 7)<|.call 19 [.agg [86,87,88,89,90,91,92],.agg [70,71,72,73,74,75,76]] 93 [none]<|.ite 93 (Li Q6 [67,.vsl 2 1 [77,78]] 94<|Li Q7 [66,J 1] 95<|.again 0 0 [95,94])<|Li Q7 [66,J 1] 94<|.again 0 0 [94,67])<|Li Q7 [66,J 1] 85<|.again 0 0 [85,67])<|.done (67)) .nil)
theorem VOk.vv {v:PV} (h:VOk v):Vv v:=by
 obtain ⟨u,hu,hok,hv⟩:=h;have hu':=hu;rcases kinds hok with hk|hk|hk|hk|hk<;>rw [hk]at hv hok hu'<;>rw [hv]
 have:u<=1:=of_decide_eq_true hok;exact .inl ⟨rfl,rfl,by show (u:Int)=0\/(u:Int)=1;omega⟩;exact .inr (.inl ⟨rfl,rfl,(wk_ hu').2⟩);exact .inr (.inr (.inl ⟨rfl,rfl,(wl_ hu').2⟩));exact .inr (.inr (.inr (.inl ⟨rfl,rfl⟩)));exact .inr (.inr (.inr (.inr ⟨rfl,rfl⟩)))
def norm (s:PS):PS:=if s.k=3 then { s with b:=some (s.b.getD []) } else s
theorem wy_ (s:PS) (B:AV):G_ (norm s) B=G_ s B:=by unfold norm;split<;>rfl
theorem wz_ (s:PS):(norm s).b.getD []=s.b.getD []:=by unfold norm;split<;>rfl
theorem wx_ (s:PS):i_ (norm s)=i_ s:=by unfold norm;split<;>rfl
structure PX where
 s:PS
 B:AV
def v_ (e:PX):List AV:=G_ e.s e.B
theorem ms_ (e:PX):(v_ e).length=7:=rfl
structure EOk (e:PX):Prop where
 B:By (e.s.b.getD []) e.B
 s:SOk (norm e.s)
 n:(e.s.b.getD []).length<=900
theorem okE {l:List PX} (h:∀e∈l,EOk e):okL (bR_ v_ l)=true:=by
 induction l with
 |nil=>rfl
 |cons e r ih=>exact kU_.okL_join (okX e.s ((h e (List.mem_cons_self ..)).B.ok b_)) (ih λt ht=>h t (List.mem_cons_of_mem _ ht))
theorem xx_ {l:List PX} (h:∀e∈l,EOk e) {x:AV} (hx:SlV v_ 7 l x):okC x=true:=by rcases hx with rfl|⟨_,rfl⟩;exact okE h;rfl
theorem xw_ {l:List PX} (h:∀e∈l,EOk e) (i:Nat):okC (.vptr (bR_ v_ (l.drop i)))=true:=okE λe he=>h e (List.mem_of_mem_drop he)
def f_ (l:List PX):List UInt8:=l.flatMap λe=>i_ e.s
theorem vy_ (l:List PX) {i:Nat} (h:i<l.length):f_ (l.take (i+1))=f_ (l.take i)++i_ l[i].s:=by show (l.take (i+1)).flatMap (λe=>i_ e.s)=(l.take i).flatMap (λe=>i_ e.s)++i_ l[i].s;rw [←List.take_append_getElem h,List.flatMap_append];show _++(i_ l[i].s++[])=_;rw [List.append_nil]
theorem wr_ (l:List PX) (i:Nat):(f_ (l.take i)).length<=(f_ l).length:=by
 have:f_ l=f_ (l.take i)++f_ (l.drop i):=by unfold f_;rw [←List.flatMap_append,List.take_append_drop]
 rw [this,List.length_append];omega
theorem u4_ {s:PS} (hs:SOk (norm s)) (hn:(s.b.getD []).length<=900):(i_ s).length<=1000:=by show (m_ s).length+1+1<=1000;have h1:=J_ s.v.k;unfold m_;split;rw [List.length_append,c_];omega;split;rw [c_];omega;split;rw [T_,List.length_cons,c_];omega;decide
theorem wi_ {k:Nat} (h:k<256):(XOp.conv 3 5).run Tryz.prog [.int .i64 (k:Int)]=some (.int .u8 ((UInt8.ofNat k).toNat:Int)):=by
 rw [tK_ Tryz.underlying3 Tryz.underlying5,E_ h];have:IntKind.u8.wrap (k:Int)=(k:Int):=by simp [IntKind.wrap,IntKind.bits,IntKind.signed];omega
 rw [this]
theorem qs_ {l:List PX} {x:AV} (h:SlV v_ 7 l x):(XOp.len 33).run Tryz.prog [x]=some (.int .i64 (l.length:Int)):=h.len Tryz.underlying33
theorem vI_ {l:List PX} {x:AV} (h:SlV v_ 7 l x) {i:Nat} (hi:i<l.length):(XOp.iaddr 33).run Tryz.prog [x,.int .i64 (i:Int)]=some (.vptr (bR_ v_ (l.drop i))):=h.ia (e:=29) Tryz.underlying33 (ti:=(Tryz.prog.info? 29).get!) (by kernel_rfl) (by kernel_rfl) ms_ hi .i64
theorem vL_ {l:List PX} {i:Nat} (h:i<l.length):(XOp.load 29).run Tryz.prog [.vptr (bR_ v_ (l.drop i))]=some (.agg (v_ l[i])):=
 run_load_agg (ti:=(Tryz.prog.info? 29).get!) Tryz.underlying29 rfl (by kernel_rfl) (by kernel_rfl) ms_ h
def L_ (s:PS):PX:=⟨s,bAV s.b⟩
theorem sl1 (s:PS):cS_ e_ 7 [s]=cS_ v_ 7 [L_ s]:=rfl
theorem vA_ (s:PS):By (s.b.getD []) (bAV s.b):=by
 cases s.b with
 |none=>exact .inr ⟨rfl,rfl⟩
 |some l=>exact SlV.v _
theorem p8 {l:List PX} {x:AV} (hx:SlV v_ 7 l x) (h:∀e∈l,EOk e) (hn:l.length<=1000) (hl:(f_ l).length<=100000):ic_ Tryz.prog 8 [x] (cS_ a_ 1 (f_ l)):=by
 have hok:=xx_ h hx;refine ua_ (sh:=[none]) (ls:=[x]) (c:=c8) (n:=300) (t:=t8) mox ov (by rcases hx with rfl|⟨_,rfl⟩<;>rfl) (by simp only [okL,hok]) (qa_ (uh_ b_ _)) (λY _=>vK_ _) rfl (by kernel_rfl) λY hf hg=>?_;unfold t8;refine vC_ (qs_ hx) rfl ?_;refine uI_ (ι:=Nat) (λi=>[.int .i64 (i:Int),cS_ a_ 1 (f_ (l.take i))]) (λi=>i<=l.length) (λi=>l.length-i) 0 (Nat.zero_le _) rfl (λ_ _=>by simp only [okL,okC,uh_ b_]) (λi j _ _ h=>?_) (λi hi=>?_)
 .have h:=(List.cons.inj h).1;injection h with _ h
  omega
 refine vC_ (run_lss ..) rfl (vl_ rfl (λhlt=>?_) (λhlt=>uH_ ?_))
 rotate_left
 have hlt:¬(i:Int)<(l.length:Int):=of_decide_eq_false hlt;show cS_ a_ 1 (f_ (l.take i))=cS_ a_ 1 (f_ l);rw [List.take_of_length_le (by omega)];have hlt:(i:Int)<(l.length:Int):=of_decide_eq_true hlt;have hlt:i<l.length:=by omega
 have he:=h l[i] (List.getElem_mem hlt);have hai:=wr_ l i;have hsn:=vy_ l hlt;have hst:[AV.int .i64 (IntKind.i64.wrap ((i:Int)+1)),cS_ a_ 1 (f_ (l.take i)++i_ l[i].s)]=[AV.int .i64 ((i+1:Nat):Int),cS_ a_ 1 (f_ (l.take (i+1)))]:=by rw [es_ (by omega),hsn]
 refine vC_ (vI_ hx hlt) (xw_ h i) (vm_ (vL_ hlt) rfl (okX _ (he.B.ok b_)) ?_);generalize l[i]=e at he hst;obtain ⟨s,B⟩:=e;have hs:SOk (norm s):=he.s;have hB:By (s.b.getD []) B:=he.B;have hbn:(s.b.getD []).length<=900:=he.n;have hkk:(norm s).k=s.k:=by unfold norm;split<;>rfl
 have hvv:(norm s).v=s.v:=by unfold norm;split<;>rfl
 have hnn:(norm s).n=s.n:=by unfold norm;split<;>rfl
 have hk:=hs.k;rw [hkk]at hk;have hcl:=u4_ hs hbn;have hdec:d_ (i_ s)=[norm s]:=by rw [←wx_];exact uA_ hs
 have h9v:=p9 (SlV.v (enc:=a_) (w:=1) (i_ s)) hcl;rw [hdec]at h9v;have h9:ic_ Tryz.prog 9 [nh_ a_ 1 (i_ s)] (cS_ e_ 7 [norm s]):=h9v;have hb2:=vA_ (norm s);rw [wz_]at hb2;have h19:=p19 s hb2 hB (by omega);rw [←wy_]at h19;have h19:ic_ Tryz.prog 19 [.agg (v_ (L_ (norm s))),.agg (G_ s B)] (.bool true):=h19;have hcv:By (i_ s) (nh_ a_ 1 (i_ s)):=SlV.v _;have cva:(XOp.conv 3 5).run Tryz.prog [.int .i64 (s.a.toNat:Int)]=some (.int .u8 (s.a.toNat:Int)):=by have:=wi_ (UInt8.toNat_lt s.a);simpa using this
 refine vC_ (wi_ (k:=s.k) (by omega)) rfl (vC_ cva rfl (vC_ (run_eql ..) rfl (vl_ rfl (λh3=>?_) (λh3=>vC_ (run_eql ..) rfl (vl_ rfl (λh6=>?_) (λh6=>vC_ (run_eql ..) rfl (vl_ rfl (λh8=>?_) (λh8=>?_))))))))
 .have h3:s.k=3:=cEq (b:=3) h3;have hC:i_ s=[UInt8.ofNat s.k,s.a]++(j_ ((s.b.getD []).length:Int) 2++(s.b.getD [])):=(by show UInt8.ofNat s.k::s.a::m_ s=_;unfold m_;rw [if_pos h3];rfl);have hcc:=p16 [⟨[UInt8.ofNat s.k,s.a],nh_ a_ 1 [UInt8.ofNat s.k,s.a]⟩,⟨j_ ((s.b.getD []).length:Int) 2,cS_ a_ 1 (j_ ((s.b.getD []).length:Int) 2)⟩,⟨s.b.getD [],B⟩] (λt ht=>by
   rcases List.mem_cons.1 ht with rfl|ht;exact SlV.v _;rcases List.mem_cons.1 ht with rfl|ht;exact SlV.of _;rcases List.mem_cons.1 ht with rfl|ht;exact hB
   .cases ht) (by show 3<=1000;decide) (by
   show ([UInt8.ofNat s.k,s.a]++(j_ ((s.b.getD []).length:Int) 2++((s.b.getD [])++[]))).length<=1000000;simp only [List.length_append,c_,List.length_cons,List.length_nil];omega)
  have ec:K_ [⟨[UInt8.ofNat s.k,s.a],nh_ a_ 1 [UInt8.ofNat s.k,s.a]⟩,⟨j_ ((s.b.getD []).length:Int) 2,cS_ a_ 1 (j_ ((s.b.getD []).length:Int) 2)⟩,⟨s.b.getD [],B⟩]=i_ s:=(by rw [hC];show [UInt8.ofNat s.k,s.a]++(j_ ((s.b.getD []).length:Int) 2++((s.b.getD [])++[]))=_;rw [List.append_nil]);rw [ec,wd_ (show i_ s≠[] from λe=>by cases e)]at hcc;exact vC_ (k_ hB) rfl (uG_ (p17 ((s.b.getD []).length:Int) (n:=2) (by decide)) rfl (by show okL [cS_ a_ 1 _]=true;simp only [okL,uh_ b_]) (uG_ hcc rfl (by show okL [nh_ a_ 1 _]=true;simp only [okL,si_ b_]) (uG_ h9 rfl (by show okL [cS_ e_ 7 _]=true;simp only [okL,uh_ okP]) (vC_ (qs_ (l:=[L_ (norm s)]) (SlV.of _)) rfl (vC_ (run_eql ..) rfl (vl_ (t:=true) rfl (λ_=>vC_ (vI_ (l:=[L_ (norm s)]) (SlV.of _) (i:=0) (by show 0<1;decide)) (okP (norm s)) (vm_ (vL_ (l:=[L_ (norm s)]) (i:=0) (by show 0<1;decide)) rfl (okP (norm s)) (uG_ h19 rfl rfl (vl_ (t:=true) rfl (λ_=>vC_ (qq_ hcv _ (by omega)) (uh_ b_ _) (vC_ (run_add ..) rfl (uw_ rfl ⟨i+1,hlt,hst,by omega⟩))) (λh=>by cases h))))) (λh=>by cases h)))))))
 have h3:=cNe (b:=3) h3;have h6:s.k=6:=cEq (b:=6) h6;have hC:i_ s=[UInt8.ofNat s.k,s.a]++j_ (s.n:Int) 4:=(by show UInt8.ofNat s.k::s.a::m_ s=_;unfold m_;rw [if_neg h3,if_pos h6];rfl);have ap:=A_ (SlV.of (enc:=a_) (w:=1) (j_ (s.n:Int) 4)) [UInt8.ofNat s.k,s.a] (by rw [c_];show 2+4<=1000000;decide);rw [←hC]at ap;exact uG_ (p17 (s.n:Int) (n:=4) (by decide)) rfl (by show okL [cS_ a_ 1 _]=true;simp only [okL,uh_ b_]) (vC_ ap (si_ b_ _) (uG_ h9 rfl (by show okL [cS_ e_ 7 _]=true;simp only [okL,uh_ okP]) (vC_ (qs_ (l:=[L_ (norm s)]) (SlV.of _)) rfl (vC_ (run_eql ..) rfl (vl_ (t:=true) rfl (λ_=>vC_ (vI_ (l:=[L_ (norm s)]) (SlV.of _) (i:=0) (by show 0<1;decide)) (okP (norm s)) (vm_ (vL_ (l:=[L_ (norm s)]) (i:=0) (by show 0<1;decide)) rfl (okP (norm s)) (uG_ h19 rfl rfl (vl_ (t:=true) rfl (λ_=>vC_ (qq_ hcv _ (by omega)) (uh_ b_ _) (vC_ (run_add ..) rfl (uw_ rfl ⟨i+1,hlt,hst,by omega⟩))) (λh=>by cases h))))) (λh=>by cases h))))));have h3:=cNe (b:=3) h3;have h6:=cNe (b:=6) h6;have h8:s.k=8:=cEq (b:=8) h8;have hV:Vv s.v:=(by have:=hs.v;rw [hkk,if_pos h8,hvv]at this;exact this.vv);have hC:i_ s=[UInt8.ofNat s.k,s.a]++I_ s.v:=(by show UInt8.ofNat s.k::s.a::m_ s=_;unfold m_;rw [if_neg h3,if_neg h6,if_pos h8];rfl);have ap:=A_ (SlV.of (enc:=a_) (w:=1) (I_ s.v)) [UInt8.ofNat s.k,s.a] (by have:=J_ s.v.k;simp only [T_,List.length_cons,List.length_nil,c_];omega);rw [←hC]at ap;exact uG_ (p18 hV) rfl (by show okL [cS_ a_ 1 _]=true;simp only [okL,uh_ b_]) (vC_ ap (si_ b_ _) (uG_ h9 rfl (by show okL [cS_ e_ 7 _]=true;simp only [okL,uh_ okP]) (vC_ (qs_ (l:=[L_ (norm s)]) (SlV.of _)) rfl (vC_ (run_eql ..) rfl (vl_ (t:=true) rfl (λ_=>vC_ (vI_ (l:=[L_ (norm s)]) (SlV.of _) (i:=0) (by show 0<1;decide)) (okP (norm s)) (vm_ (vL_ (l:=[L_ (norm s)]) (i:=0) (by show 0<1;decide)) rfl (okP (norm s)) (uG_ h19 rfl rfl (vl_ (t:=true) rfl (λ_=>vC_ (qq_ hcv _ (by omega)) (uh_ b_ _) (vC_ (run_add ..) rfl (uw_ rfl ⟨i+1,hlt,hst,by omega⟩))) (λh=>by cases h))))) (λh=>by cases h))))));have h3:=cNe (b:=3) h3;have h6:=cNe (b:=6) h6;have h8:=cNe (b:=8) h8;have hC:i_ s=[UInt8.ofNat s.k,s.a]:=(by show UInt8.ofNat s.k::s.a::m_ s=_;unfold m_;rw [if_neg h3,if_neg h6,if_neg h8]);have h9':ic_ Tryz.prog 9 [nh_ a_ 1 [UInt8.ofNat s.k,s.a]] (cS_ e_ 7 [norm s]):=(by rw [←hC];exact h9);have hcv':By (i_ s) (nh_ a_ 1 [UInt8.ofNat s.k,s.a]):=(by rw [←hC];exact hcv);exact uG_ h9' rfl (by show okL [cS_ e_ 7 _]=true;simp only [okL,uh_ okP]) (vC_ (qs_ (l:=[L_ (norm s)]) (SlV.of _)) rfl (vC_ (run_eql ..) rfl (vl_ (t:=true) rfl (λ_=>vC_ (vI_ (l:=[L_ (norm s)]) (SlV.of _) (i:=0) (by show 0<1;decide)) (okP (norm s)) (vm_ (vL_ (l:=[L_ (norm s)]) (i:=0) (by show 0<1;decide)) rfl (okP (norm s)) (uG_ h19 rfl rfl (vl_ (t:=true) rfl (λ_=>vC_ (qq_ hcv' _ (by omega)) (uh_ b_ _) (vC_ (run_add ..) rfl (uw_ rfl ⟨i+1,hlt,hst,by omega⟩))) (λh=>by cases h))))) (λh=>by cases h))))
def c10:VC:=⟨⟨[],[]⟩,[(21,[none])],[],0,true,[]⟩
def t10:VT:=It Qb [64,71] 78 (It Qb [65,72] 79 (It Qc [66,73] 80 (Li Q0 [67] 81<|Li Q0 [74] 82<|It Q3 [81,82] 83 (.call 21 [.agg [68,69,70],.agg [75,76,77]] 84 [none]<|.done (84))<|.done (.bool false))<|.done (.bool false))<|.done (.bool false))<|.done (.bool false)
def c11:VC:=⟨⟨[],[]⟩,[(10,[none])],[(0,[⟨[(5,.slx 0 0 0),(1,65),(0,64)],[],0,1,[],[],[]⟩])],0,true,[]⟩
def t11:VT:=Li Q8 [64] 66<|Li Q8 [65] 67<|It Qz [66,67] 68 (.done (.bool false))<|.loop 69 0 [J 0] (.cons 1 (Li Q8 [64] 70<|It Qd [69,70] 71 (Li Q9 [64,69] 72<|.lt Qa [72] 73 (some 7)<|Li Q9 [65,69] 80<|.lt Qa [80] 81 (some 7)<|.call 10 [.agg [73,74,75,76,77,78,79],.agg [81,82,83,84,85,86,87]] 88 [none]<|It Q4 [88] 89 (.done (.bool false))<|Li Q7 [69,J 1] 90<|.again 0 0 [90])<|.done (.bool true)) .nil)
theorem uv_ (l:List UInt8):fZ_ (bR_ a_ l)=some l:=by
 induction l with
 |nil=>rfl
 |cons c r ih=>
  show (match fZ_ (bR_ a_ r)with
   |some l=>some (UInt8.ofNat c.toNat::l)
   |none=>none)=_
  rw [ih];show some (UInt8.ofNat c.toNat::r)=_;simp
theorem cvS {l:List UInt8} {x:AV} (h:By l x):(XOp.conv 23 9).run Tryz.prog [x]=some (.str l):=by
 rcases h with rfl|⟨rfl,rfl⟩
 .have hl:(bR_ a_ l).length=l.length*1:=eB_ lenB l;have e:cl_ Tryz.prog h0 23 9 (nh_ a_ 1 l)=some (.str l):=by
   unfold cl_ nh_;simp only [Tryz.underlying23,Tryz.underlying9,Tryz.underlying5];have h1:am_ h0 (.vsl l.length 1 (bR_ a_ l)) l.length 1=some (bR_ a_ l):=by show a1_ (Nat.mul l.length 1) _=_;have h:=eX_ (bR_ a_ l) [];rw [List.append_nil,hl]at h;exact h
   have h2:Nat.beq (aK_ (bR_ a_ l)) l.length=true:=(by rw [ai_,hl,Nat.mul_one];exact Nat.beq_refl _);simp only [aS_,h1,h2,uv_]
  show c3_ Tryz.prog h0 23 9 (nh_ a_ 1 l)=_;unfold c3_;rw [e];rfl
 kernel_rfl
theorem p10 (s:PS) {l:List UInt8} {B C:AV} (hB:By l B) (hC:By l C):ic_ Tryz.prog 10 [.agg (G_ s B),.agg (G_ s C)] (.bool true):=by refine ua_ (sh:=[some 7,some 7]) (ls:=G_ s B++G_ s C) (c:=c10) (n:=300) (t:=t10) mox ov rfl (kU_.okL_join (okX s (hB.ok b_)) (okX s (hC.ok b_))) rfl (λY _=>vK_ _) rfl (by kernel_rfl) λY hf hg=>?_;unfold t10;refine vC_ (run_eql ..) rfl (vl_ rfl (λ_=>vC_ (run_eql ..) rfl (vl_ rfl (λ_=>vC_ (run_eql ..) rfl (vl_ rfl (λ_=>vC_ (cvS hB) rfl (vC_ (cvS hC) rfl (vC_ (vv_ ..) rfl (vl_ rfl (λ_=>uG_ (p21 s.v) rfl rfl (uH_ rfl)) (λh=>?_))))) (λh=>?_))) (λh=>?_))) (λh=>?_))<;>exact absurd (of_decide_eq_false h) (λe=>e rfl)
theorem p11 {l:List PS} {x y:AV} (hx:SlV e_ 7 l x) (hy:SlV e_ 7 l y) (hl:l.length<=100000):ic_ Tryz.prog 11 [x,y] (.bool true):=by
 refine ua_ (sh:=[none,none]) (ls:=[x,y]) (c:=c11) (n:=300) (t:=t11) mox ov (by rcases hx with rfl|⟨_,rfl⟩<;>rcases hy with rfl|⟨_,rfl⟩<;>rfl) (by simp only [okL,hx.ok okP,hy.ok okP]) rfl (λY _=>vK_ _) rfl (by kernel_rfl) λY hf hg=>?_;have ia:∀{x:AV},SlV e_ 7 l x->∀{i:Nat},i<l.length->(XOp.iaddr 33).run Tryz.prog [x,.int .i64 (i:Int)]=some (.vptr (bR_ e_ (l.drop i))):=λh _ hi=>h.ia (e:=29) Tryz.underlying33 (ti:=(Tryz.prog.info? 29).get!) (by kernel_rfl) (by kernel_rfl) uQ_ hi .i64;have ld:∀{i:Nat} (h:i<l.length),(XOp.load 29).run Tryz.prog [.vptr (bR_ e_ (l.drop i))]=some (.agg (e_ l[i])):=λh=>run_load_agg (ti:=(Tryz.prog.info? 29).get!) Tryz.underlying29 rfl (by kernel_rfl) (by kernel_rfl) uQ_ h;have okd:∀i:Nat,okC (.vptr (bR_ e_ (l.drop i)))=true:=λi=>kU_ okP _;unfold t11;refine vC_ (hx.len Tryz.underlying33) rfl (vC_ (hy.len Tryz.underlying33) rfl (vC_ (run_neq ..) rfl (vl_ rfl (λh=>?_) (λ_=>?_))));have h:(!decide ((l.length:Int)=(l.length:Int)))=true:=h;rw [decide_eq_true rfl]at h;cases h;refine uI_ (ι:=Nat) (λi=>[.int .i64 (i:Int)]) (λi=>i<=l.length) (λi=>l.length-i) 0 (Nat.zero_le _) rfl (λ_ _=>rfl) (λi j _ _ h=>?_) (λi hi=>?_)
 .have h:=(List.cons.inj h).1;injection h with _ h
  omega
 refine vC_ (hx.len Tryz.underlying33) rfl (vC_ (run_lss ..) rfl (vl_ rfl (λhlt=>?_) (λ_=>uH_ rfl)));have hlt:(i:Int)<(l.length:Int):=of_decide_eq_true hlt;have hlt:i<l.length:=by omega
 refine vC_ (ia hx hlt) (okd i) (vm_ (ld hlt) rfl (okP _) (vC_ (ia hy hlt) (okd i) (vm_ (ld hlt) rfl (okP _) (uG_ (p10 l[i] (vA_ l[i]) (vA_ l[i])) rfl rfl (vC_ (vw_ ..) rfl (vl_ (t:=false) rfl (λh=>by cases h) (λ_=>vC_ (run_add ..) rfl (uw_ rfl ⟨i+1,hlt,?_,?_⟩))))))));show [AV.int .i64 (IntKind.i64.wrap ((i:Int)+1))]=[AV.int .i64 ((i+1:Nat):Int)];rw [es_ (by omega)];omega
end Go.Proofs.YtngajicbldemgaaGreatDoor.vars
