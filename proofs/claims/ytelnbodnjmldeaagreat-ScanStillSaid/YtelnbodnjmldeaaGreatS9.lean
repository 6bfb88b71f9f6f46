/-
  ScanNew: the walk.
-/
import Derived.Test.YtelnbodnjmldeaaGreatS5
import Derived.Test.YtelnbodnjmldeaaGreatFA
import Derived.Test.YtelnbodnjmldeaaGreatYF
import Derived.Test.YtelnbodnjmldeaaGreatYK
import Derived.Test.YtelnbodnjmldeaaGreatWI
set_option maxRecDepth 100000
set_option linter.unusedVariables false
set_option linter.unusedSimpArgs false
open Nat renaming zero_le→za'
open Int renaming eq_ofNat_of_zero_le→zb'
namespace Go.Proofs.YtelnbodnjmldeaaGreat.vars
open Go Go.Sx
structure Two (x b:AV) (n e:Int) (c d:List AV):Prop where
 p:jD_ Tryz.prog 10 [.agg [VARS,b],x,.int .i64 n] (.tup [.agg c,.int .i64 e])
 q:jD_ Tryz.prog 11 [.agg [VARS,b],x,.int .i64 n] (.tup [.agg d,.int .i64 e])
 s:jD_ Tryz.prog 12 [.agg c,.agg d] (.bool true)
 oc:okL c=true
 od:okL d=true
theorem yk_ {e:Int}:(XOp.bin .neq 31 false false).run Tryz.prog [.int .i64 e,.int .i64 e]=some (.bool false):=by rw [run_neq,decide_eq_true rfl];rfl
section
variable {l:List GI} {T:List (List Int)}
theorem zo_ {s:SS} (h:¬onS s):s.err≠0\/s.m.over=true:=by apply Classical.byContradiction;intro q;exact h ⟨Classical.byContradiction λe=>q (.inl e),by cases ho:s.m.over with|true=>exact absurd (.inr ho) q|false=>rfl⟩
theorem C2_ {s:SS} (h:onS s):¬(s.err≠0\/s.m.over=true):=by rintro (q|q);exact q h.1;rw [h.2]at q;cases q
theorem rX_ {s:SS} (h:¬onS s):M_ l s=s/\u5_ l s=true:=⟨if_pos (zo_ h),if_pos (zo_ h)⟩
theorem zu_ {s:SS} (h:onS s) (hr:Run l T s):
  (u5_ l s=true/\s.most<=s.m.used/\M_ l s={ s with im:=vZ_ s.im,m:={ s.m with err:=8 },err:=8,n:=IntKind.i64.wrap (s.n+1) })\/
  (s.m.used<s.most/\u5_ l s=true/\(f_ l s.m).over=true/\M_ l s={ s with im:=(f_ l s.m).mem,m:=f_ l s.m,n:=IntKind.i64.wrap (s.n+1) })\/
  (s.m.used<s.most/\u5_ l s=true/\(f_ l s.m).over=false/\(f_ l s.m).err≠0/\M_ l s={ s with im:=vZ_ s.im,m:=f_ l s.m,err:=(f_ l s.m).err,n:=IntKind.i64.wrap (s.n+1) })\/
  (s.m.used<s.most/\u5_ l s=false/\(f_ l s.m).over=false/\(f_ l s.m).err=0/\M_ l s={ s with m:=f_ l s.m }):=by
 have hon:=C2_ h;by_cases hu:s.most<=s.m.used;have em:=Az_ (l:=l) hu;refine .inl ⟨?_,hu,?_⟩;unfold u5_;rw [if_neg hon,em];exact decide_eq_true (.inr (by show (8:Int)≠0;decide));unfold M_;rw [if_neg hon,em,if_neg (by show ¬s.m.over=true;rw [h.2];decide),if_pos (by show (8:Int)≠0;decide)];have em:=zm_ (l:=l) hu;have hu:s.m.used<s.most:=by omega
 cases ho:(f_ l s.m).over with
 |true=>refine .inr (.inl ⟨hu,?_,rfl,?_⟩);unfold u5_;rw [if_neg hon,em];exact decide_eq_true (.inl ho);unfold M_;rw [if_neg hon,em,if_pos ho]
 |false=>by_cases he:(f_ l s.m).err=0;refine .inr (.inr (.inr ⟨hu,?_,rfl,he,?_⟩));unfold u5_;rw [if_neg hon,em];exact decide_eq_false (by rw [ho,he];simp);unfold M_;rw [if_neg hon,em,if_neg (by rw [ho];decide),if_neg (by rw [he];decide)];refine .inr (.inr (.inl ⟨hu,?_,rfl,he,?_⟩));unfold u5_;rw [if_neg hon,em];exact decide_eq_true (.inr he);unfold M_;rw [if_neg hon,em,if_neg (by rw [ho];decide),if_pos he]
theorem AW_ (hG:Good T 0 l) (hlen:T.length=l.length) {s:SS} (h:Run l T s):Run l T (M_ l s):=by by_cases hon:onS s;obtain ⟨hmt,hme⟩:=h.mt hon.1 hon.2;have hns:¬wM_ s.m:=(by rintro (q|q);rw [hon.2]at q;cases q;exact q hme);have hst:=yF_ hlen hG h.now hmt;obtain ⟨k1,k2⟩:=MTs.small hG hst;have k3:=k2.len;have hnow:(f_ l s.m).now=s.m.now:=AX_;have hus:(f_ l s.m).used=s.m.used+1:=xG_ hns;have hmo:=h.most;have hu0:=h.used;rcases zu_ hon h with ⟨_,_,e⟩|⟨hu,_,ho,e⟩|⟨hu,_,ho,he,e⟩|⟨hu,_,ho,he,e⟩;rw [e];exact ⟨zs_ h.im,h.st,h.mem,h.now,h.used,h.most,λq=>by cases q⟩;rw [e];exact ⟨k2,by show (f_ l s.m).st.length<=1000;omega,by show (f_ l s.m).mem.length<=1000;omega,by show _<=(f_ l s.m).now/\(f_ l s.m).now<=_;rw [hnow];exact h.now,by show 0<=(f_ l s.m).used/\(f_ l s.m).used<=_;omega,h.most,λ_ q=>by have q:(f_ l s.m).over=false:=q;rw [ho]at q;cases q⟩;rw [e];exact ⟨zs_ h.im,by show (f_ l s.m).st.length<=1000;omega,by show (f_ l s.m).mem.length<=1000;omega,by show _<=(f_ l s.m).now/\(f_ l s.m).now<=_;rw [hnow];exact h.now,by show 0<=(f_ l s.m).used/\(f_ l s.m).used<=_;omega,h.most,λq=>absurd q he⟩;rw [e];exact ⟨h.im,by show (f_ l s.m).st.length<=1000;omega,by show (f_ l s.m).mem.length<=1000;omega,by show _<=(f_ l s.m).now/\(f_ l s.m).now<=_;rw [hnow];exact h.now,by show 0<=(f_ l s.m).used/\(f_ l s.m).used<=_;omega,h.most,λ_ _=>⟨hst,he⟩⟩;rw [(rX_ hon).1];exact h
end
theorem zA_ {x:List GS} (hT:∀s∈x,TS 3 s) {s:SS} (h:Run (w_ x) (tyP x) s) {now:Int} (hn: -9223372036854775808<=now/\now<=9223372036854775807):Run (w_ x) (tyP x) (oC_ s now):=by unfold oC_;split;have hi:=h.im.len;exact ⟨h.im,za' _,by show s.im.length<=1000;omega,hn,⟨Int.le_refl _,by show (0:Int)<=100000;decide⟩,h.most,λ_ _=>⟨AE_ hT h.im,rfl⟩⟩;exact h
theorem Db_ {x:List GS} {mem:List FV} (hm:MemOk mem) {n:Int} (hn:n<=100000):Run (w_ x) (tyP x) { s0 n with im:=mem }:=
 ⟨hm,za' _,za' _,by show (-9223372036854775808:Int)<=0/\(0:Int)<=_;decide,by show (0:Int)<=0/\(0:Int)<=_;decide,hn,λ_ q=>by cases q⟩
def z6_ (most:Int) (k:Nat) (s:SS):Prop:=s.most=most/\((onS s/\s.m.used=(k:Int)/\(k:Int)<=most/\s.n=0)\/(¬onS s/\s.n=1))
theorem zT_ {l:List GI} {T:List (List Int)} {most:Int} {k:Nat} {s:SS} (hr:Run l T s) (h:z6_ most k s):z6_ most (k+1) (M_ l s):=by obtain ⟨hm,⟨hon,hu,hk,hn⟩|⟨hof,hn⟩⟩:=h;obtain ⟨hmt,hme⟩:=hr.mt hon.1 hon.2;have hns:¬wM_ s.m:=(by rintro (q|q);rw [hon.2]at q;cases q;exact q hme);have w1:IntKind.i64.wrap (s.n+1)=1:=(by rw [hn];decide);have hus:(f_ l s.m).used=s.m.used+1:=xG_ hns;rcases zu_ hon hr with ⟨_,_,e⟩|⟨hu2,_,ho,e⟩|⟨hu2,_,ho,he,e⟩|⟨hu2,_,ho,he,e⟩;rw [e];exact ⟨hm,.inr ⟨(λq=>by have:=q.1;cases this),w1⟩⟩;rw [e];refine ⟨hm,.inr ⟨λq=>?_,w1⟩⟩;have:=q.2;have:(f_ l s.m).over=false:=this;rw [ho]at this;cases this;rw [e];exact ⟨hm,.inr ⟨λq=>he q.1,w1⟩⟩;rw [e];refine ⟨hm,.inl ⟨⟨hon.1,ho⟩,?_,?_,hn⟩⟩;show (f_ l s.m).used=_;rw [hus];omega;omega;rw [(rX_ hof).1];exact ⟨hm,.inr ⟨hof,hn⟩⟩
theorem Dd_ {most:Int} (h:0<=most) (mem:List FV) (now:Int):z6_ most 0 (oC_ { s0 most with im:=mem } now):=⟨rfl,.inl ⟨⟨rfl,rfl⟩,rfl,h,rfl⟩⟩
theorem AY_ {most:Int} {k:Nat} {s:SS} (h:z6_ most k s) (hk:most<(k:Int)):¬onS s/\s.n=1:=by obtain ⟨_,⟨_,_,q,_⟩|q⟩:=h;omega;exact q
structure Till (b:List GS) (most:Int) (mem:List FV) (now:Int) (k:Nat) (s:SS):Prop where
 most:s.most=most
 im:s.im=mem
 n:s.n=0
 err:s.err=0
 m:s.m=itI (w_ b) k (Rn 0 [] mem 0 now)
 on:¬wM_ s.m
def c6:VC:=⟨⟨[],[]⟩,[(7,[none]),(9,[none,none]),(10,[(some 13),none]),(12,[none]),(13,[(some 13)])],[(0,[⟨[(15,.slx 0 0 0),(13,.ptr 1 0),(3,67)],[(1,[.slx 1 0 0,.slx 2 0 0,.slx 3 0 0,.slx 4 0 0,.slx 5 0 0,.slx 6 0 0,.slx 7 0 0,.slx 8 0 0,.slx 9 0 0,.slx 10 0 0,.slx 11 0 0,.slx 12 0 0,.slx 13 0 0])],2,14,[],[],[]⟩])],0,true,[(8,ft8),(17,ft17),(18,ft18),(15,ft15)]⟩
def t6:VT:=.call 7 [] 68 [none]<|It Q6 [68] 69 (.done (.bool false))<|Li Z5 [64] 70<|It Qb [70,J 200] 71 (.done (.bool true))<|Li Z5 [65] 72<|It Qb [72,J 60] 73 (.done (.bool true))<|Cf 8 ft8 [64] 74 3<|.call 9 [.agg [75,76]] 78 [none,none]<|It Q6 [77] 80 (.done (.bool true))<|It Q7 [79,J 0] 81 (.done (.bool true))<|Li (.bin .rem 5 false true) [66,.int .u8 40] 82<|Li Zi [82] 83<|Li Z2 [J 1,83] 84<|.call 10 [.agg [75,76],78,84] 85 [(some 13),none]<|It Q7 [98,J 0] 99 (.done (.bool false))<|Cf 17 ft17 [65] 100 0<|Cf 18 ft18 [65,J 0] 101 2<|.call 13 [.agg [85,86,87,103,89,90,91,92,93,94,95,96,97],J 2] 105 [(some 13)]<|.loop 118 0 [J 0,105,106,107,108,109,110,111,112,113,114,115,116,117] (.cons 14 (It Qa [118,J 50] 132 (Cf 15 ft15 [119,120,121,122,123,124,125,126,127,128,129,130,131] 133 14<|Li Q3 [118,J 1] 160<|.again 0 0 [160,146,147,148,149,150,151,152,153,154,155,156,157,158])<|Cf 15 ft15 [119,120,121,122,123,124,125,126,127,128,129,130,131] 133 14<|It Q6 [159] 160 (.done (.bool false))<|.call 12 [.agg [146,147,148,149,150,151,152,153,154,155,156,157,158],.agg [119,120,121,122,123,124,125,126,127,128,129,130,131]] 161 [none]<|It Q6 [161] 162 (.done (.bool false))<|It Q1 [131,J 1] 163 (.done (.bool false))<|It Z3 [130,J 0] 164 (.done (.bool true))<|Li (.conv 56 2) [67] 165<|.call 13 [.agg [119,120,121,122,123,124,125,126,127,128,129,130,131],165] 166 [(some 13)]<|.call 12 [.agg [166,167,168,169,170,171,172,173,174,175,176,177,178],.agg [119,120,121,122,123,124,125,126,127,128,129,130,131]] 179 [none]<|.done (179)) .nil)
theorem AF_ {b:List GS} (hT:∀s∈b,TS 3 s) (hl:(w_ b).length<=400) {n:Int} (h1:1<=n) (h2:n<=256):jD_ Tryz.prog 10 [.agg [VARS,Z_ b],k_ (w_ b),.int .i64 n] (.tup [.agg (u7_ (k_ (w_ b)) (s0 n) .nsl),.int .i64 0]):=by have hx:SlV l_ 7 (w_ b) (k_ (w_ b)):=SlV.of _;have h:=p10 hx (by omega) (okB b) n (zX_ hT hl);rw [show zH_ 0 n=0 from if_neg (by omega),show AD_ (k_ (w_ b)) n 0=u7_ (k_ (w_ b)) (s0 n) .nsl from if_pos rfl]at h;exact h
theorem p6 {l l2:List UInt8} {a a2:AV} (hp:Pk l a) (hp2:Pk l2 a2) (c d:Nat) (hc:c<256) (hd:d<65536):jD_ Tryz.prog 6 [a,a2,.int .u8 (c:Int),.int .u16 (d:Int)] (.bool true):=by
 have hA:=hp.1.ok wG_;have hA2:=hp2.1.ok wG_;refine uk_ (sh:=[none,none,none,none]) (ls:=[a,a2,.int .u8 (c:Int),.int .u16 (d:Int)]) (c:=c6) (n:=300) (t:=t6) mo ov rfl (by simp only [okL,okC,hA,hA2]) rfl (λY _=>vX_ _) rfl (by kernel_rfl) λY hf hg=>?_;unfold t6;refine uW_ k7 rfl rfl (VOK_lt (vM_ ..) rfl (vz_ (t:=false) rfl (λh=>by cases h) (λ_=>?_)));refine VOK_lt (Av_ hp) rfl (VOK_lt (run_gtr ..) rfl (vz_ rfl (λ_=>uX_ rfl) (λ_=>?_)));refine VOK_lt (Av_ hp2) rfl (VOK_lt (run_gtr ..) rfl (vz_ rfl (λ_=>uX_ rfl) (λ_=>?_)));refine a_ (p8 hp) rfl (by simp only [okL,hA]) ⟨?_,trivial⟩;rintro ws ⟨v,b,e,rfl,hv,h0,hb⟩;obtain ⟨hbl,hT⟩:=By_ h0 λh=>(hb h).2;refine uW_ (p9 (d:=3) hv hbl hT (by have:=CR_ hbl hT 0;omega)) rfl (by show okL [pl b,.int .i64 (pe b)]=true;simp only [okL,okC,Eb_]) ?_;refine VOK_lt (vM_ ..) rfl (vz_ rfl (λ_=>uX_ rfl) (λhe=>?_));have he:e=true:=by simpa using he
 obtain ⟨rfl,_,_⟩:=hb he;refine VOK_lt (run_neq ..) rfl (vz_ rfl (λ_=>uX_ rfl) (λhpe=>?_));obtain ⟨hl,hpl⟩:=AA_ (x:=b) (by simpa using hpe);rw [hpl];have hG:=DR_ hT;have hlen:=zw_ b;have okx:=okI (w_ b);obtain ⟨s,es⟩:∃s:Nat,s=c%40:=⟨_,rfl⟩;have hs:s<40:=by omega
 have hr:(c:Int).tmod 40=(s:Int):=by rw [Int.tmod_eq_emod_of_nonneg (by omega),es];rfl
 have hR:∀(t:TypeId) (cx cy:Bool),(XOp.bin .rem t cx cy).run Tryz.prog [.int .u8 (c:Int),.int .u8 40]=some (.int .u8 (s:Int)):=λt cx cy=>by rw [←hr];exact vp_ (by decide) ..
 refine VOK_lt (hR ..) rfl (VOK_lt (Cb_ s (by omega)) rfl (VOK_lt (q_ (by omega) (by omega)) rfl ?_));have hn1:1<=(1:Int)+(s:Int):=by omega
 have hn2:(1:Int)+(s:Int)<=256:=by omega
 generalize hn:(1:Int)+(s:Int)=n at*;refine uW_ (AF_ hT hl hn1 hn2) rfl (kY_.okL_join (okT (s0 n) okx rfl) rfl) ?_;refine VOK_lt yk_ rfl (vz_ (t:=false) rfl (λh=>by cases h) (λ_=>?_));refine a_ (p17 a2 hA2) rfl (by simp only [okL,hA2]) ⟨?_,trivial⟩;rintro ws rfl;refine a_ (p18 hp2 (za' _)) rfl (by simp only [okL,okC,hA2]) ⟨?_,trivial⟩;rintro ws ⟨mem,n2,rfl,hm,hn2'⟩;have hr0:Run (w_ b) (tyP b) { s0 n with im:=mem }:=Db_ hm (by omega);have hr1:=zA_ hT hr0 (now:=2) (by omega);have hst1:=Dd_ (most:=n) (by omega) mem 2;have hk1:St (oC_ { s0 n with im:=mem } 2).m.st .nsl:=z9_ (s:={ s0 n with im:=mem }) 2 x3_;refine uW_ (p13 (s:={ s0 n with im:=mem }) (SlV.of (w_ b)) (by omega) x3_ hr0.small hm 2) rfl (zp_ _ 2 okx rfl) ?_;generalize hs1:oC_ { s0 n with im:=mem } 2=s1 at*;rw [show vw_ { s0 n with im:=mem } .nsl=.nsl from if_pos rfl]
 refine uY_ (ι:=Nat×SS×AV) (λx=>.int .i64 (x.1:Int)::u7_ (k_ (w_ b)) x.2.1 x.2.2) (λx=>x.1<=50/\Run (w_ b) (tyP b) x.2.1/\z6_ n x.1 x.2.1/\St x.2.1.m.st x.2.2) (λx=>50-x.1) (0,s1,.nsl) ⟨za' _,hr1,hst1,hk1⟩ rfl (λx h=>by rw [aY_];exact okT _ okx (St.okC h.2.2.2)) (λx x' _ _ h=>by
  have h:=(List.cons.inj h).1;injection h with _ h
  omega) (λx hx=>?_)
 obtain ⟨i,s,st⟩:=x;obtain ⟨h50,hr,hst,hs⟩:=hx;simp only at h50 hr hst hs⊢;have h15:=p15 hG hl hlen hs hr;have hok:=okT (x:=k_ (w_ b)) (st:=st) s okx hs.okC;refine VOK_lt (run_lss ..) rfl (vz_ rfl (λhc=>?_) (λhc=>?_));have hc:(i:Int)<50:=dT hc;refine a_ h15 rfl hok ⟨?_,trivial⟩;rintro ws ⟨st',hs',rfl⟩;exact VOK_lt (q_ (by omega) (by omega)) rfl (uJ_ rfl ⟨(i+1,M_ (w_ b) s,st'),⟨by show i+1<=50;omega,AW_ hG hlen hr,zT_ hr hst,hs'⟩,rfl,by show 50-(i+1)<50-i;omega⟩);have hc:¬(i:Int)<50:=dF hc;obtain ⟨hoff,hn1⟩:=AY_ hst (by omega);obtain ⟨e1,e2⟩:=rX_ (l:=w_ b) hoff;rw [e1,e2]at h15;refine a_ h15 rfl hok ⟨?_,trivial⟩;rintro ws ⟨st',hs',rfl⟩;refine VOK_lt (vM_ ..) rfl (vz_ (t:=false) rfl (λh=>by cases h) (λ_=>?_));refine uW_ (p12 (SlV.of (w_ b)) (SlV.of (w_ b)) (by omega) hs' hs hr.small) rfl rfl (VOK_lt (vM_ ..) rfl (vz_ (t:=false) rfl (λh=>by cases h) (λ_=>?_)));have hneq:(XOp.bin .neq 3 false true).run Tryz.prog [.int .i64 s.n,.int .i64 1]=some (.bool false):=(by rw [hn1];exact yk_);refine VOK_lt hneq rfl (vz_ (t:=false) rfl (λh=>by cases h) (λ_=>?_));refine VOK_lt (run_eql ..) rfl (vz_ rfl (λ_=>uX_ rfl) (λhe=>?_));have he:¬s.err=0:=dF he;have hb:=p13 (SlV.of (w_ b)) (by omega) hs hr.small hr.im (d:Int);rw [show oC_ s d=s from if_neg he,show vw_ s st=st from if_neg he]at hb;refine VOK_lt (CI_ d hd) rfl (uW_ hb rfl hok (uW_ (p12 (SlV.of (w_ b)) (SlV.of (w_ b)) (by omega) hs hs hr.small) rfl rfl (uX_ rfl)))
theorem q6 {c d:Int} (wc:(Lit.int .u8 c).wf=true) (wd:(Lit.int .u16 d).wf=true) {l l2:List UInt8} {a a2:AV} (sl:SlV wr_ 1 l a) (m:l.length<=maxLen) (sl2:SlV wr_ 1 l2 a2) (m2:l2.length<=maxLen):jD_ Tryz.prog 6 [a,a2,.int .u8 c,.int .u16 d] (.bool true):=by
 have hw:0<=c/\c<=255:=by simpa [Lit.wf,IntKind.min,IntKind.max,IntKind.bits,IntKind.signed]using wc
 have hw2:0<=d/\d<=65535:=by simpa [Lit.wf,IntKind.min,IntKind.max,IntKind.bits,IntKind.signed]using wd
 obtain ⟨n,rfl⟩:=zb' hw.1;obtain ⟨k,rfl⟩:=zb' hw2.1;simp only [maxLen]at m m2;exact p6 ⟨sl,by omega⟩ ⟨sl2,by omega⟩ n k (by omega) (by omega)
end Go.Proofs.YtelnbodnjmldeaaGreat.vars
