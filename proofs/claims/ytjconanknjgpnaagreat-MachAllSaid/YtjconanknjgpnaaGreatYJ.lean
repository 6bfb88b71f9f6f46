/-
  Mach's laws: the beginning, closed.
-/
import Derived.Test.YtjconanknjgpnaaGreatFA
import Derived.Test.YtjconanknjgpnaaGreatSyS
import Derived.Test.YtjconanknjgpnaaGreatWI
set_option maxRecDepth 100000
namespace Go.Proofs.YtjconanknjgpnaaGreat.vars
open Go Go.Sx
theorem DE_: @uU_ gI Tryz.prog 3000 27 [] (.bool true)=true:=by kernel_rfl
theorem k27:kH_ Tryz.prog 27 [] (.bool true):= @vj_ gI Tryz.prog mo ov 3000 27 [] (.bool true) DE_
end Go.Proofs.YtjconanknjgpnaaGreat.vars
set_option maxRecDepth 100000
set_option linter.unusedVariables false
set_option linter.unusedSimpArgs false
namespace Go.Proofs.YtjconanknjgpnaaGreat.vars
open Go Go.Sx
theorem yt_ {α:Type} {enc:α->List AV} {p:List AV->Prop} {q:α->Prop} (h:∀r,p r->∃a,r=enc a/\q a):∀rows:List (List AV),(∀r,r∈rows->p r)->∃l:List α,rows.flatten=aR_ enc l/\l.length=rows.length/\∀a,a∈l->q a
 |[],_=>⟨[],rfl,rfl,λa h=>by cases h⟩
 |r::rows,hr=>by obtain ⟨a,rfl,ha⟩:=h r (hr r (List.mem_cons_self ..));obtain ⟨l,h1,h2,h3⟩:=yt_ h rows λr h=>hr r (List.mem_cons_of_mem _ h);refine ⟨a::l,by rw [List.flatten_cons,h1];rfl,by simp [h2],λb hb=>?_⟩;rcases List.mem_cons.1 hb with rfl|hb;exact ha;exact h3 b hb
theorem AJ_ {r:List AV} (h:Sx.Fit Tryz.prog 5 r):∃c:UInt8,r=v4_ c/\True:=by
 obtain ⟨n,rfl,hn⟩:=tr_ Tryz.underlying5 h;have hn:0<=n/\n<=255:=by simpa [Lit.wf,IntKind.min,IntKind.max,IntKind.bits,IntKind.signed]using hn
 refine ⟨n.toNat.toUInt8,?_,trivial⟩;have:((n.toNat.toUInt8).toNat:Int)=n:=by have h1:n.toNat.toUInt8.toNat=n.toNat:=(by simp only [Nat.toUInt8,UInt8.toNat_ofNat'];omega);rw [h1];omega
 unfold v4_;rw [this]
theorem arg_u8s {H:Type} {enc:TypeId×Value->H} {W:World} {base:Nat} {v:Value} {dd:DataW H} {p ps:List MemPlace} (hok:Value.okWide Tryz.prog W .any base 22 v)
  (h:DataW.Trod enc Tryz.prog W 0 (λ_=>true) true 22 v dd p) (hps:∀q,q∈p->q∈ps):∃(l:List UInt8) (a:AV),SlV v4_ 1 l a/\True/\l.length<=maxLen/\Con (j2_ (lb_ W ps)) a v:=by
 rcases uw_ (d:=5) Tryz.underlying22 (by kernel_rfl) hok h hps with rfl|⟨rows,h1,h2,h3,h4⟩;exact ⟨[],.nsl,.inr ⟨rfl,rfl⟩,trivial,Nat.zero_le _,by simp only [Con]⟩;obtain ⟨l,k1,k2,k3⟩:=yt_ (enc:=v4_) (q:=λ_=>True) (λr hr=>AJ_ hr) rows h1;have hc:Tryz.prog.cellsOf 5=1:=(by kernel_rfl);refine ⟨l,dZ_ v4_ 1 l,.inl rfl,trivial,by omega,?_⟩;have h4':=h4;rw [k1,hc,←k2]at h4';exact h4'
end Go.Proofs.YtjconanknjgpnaaGreat.vars
set_option maxRecDepth 100000
set_option linter.unusedVariables false
set_option linter.unusedSimpArgs false
namespace Go.Proofs.YtjconanknjgpnaaGreat.vars
open Go Go.Sx
theorem zV_ {b:List GS} {e:Bool} (h0:e=false->b=[]) (h1:e=true->b.length<=5/\∀s∈b,TS 3 s):b.length<=5/\∀s∈b,TS 3 s:=by
 cases e with
 |true=>exact h1 rfl
 |false=>rw [h0 rfl];exact ⟨Nat.zero_le _,λs hs=>(List.not_mem_nil hs).elim⟩
theorem zg_ {x:List GS} (h:pe x=0):(qn_ x).length<=400/\pl x=i_ (qn_ x):=by unfold pe at h;split at h;rename_i hl;exact ⟨hl,by unfold pl;rw [if_pos hl]⟩;cases h
theorem zj_ {x:List GS} (hT:∀s∈x,TS 3 s) {mem:List FV} (hm:MemOk mem) {now:Int}:MTs (qn_ x) (tyP x) (vZ_ mem now):=by
 have h0:=CS_ hT;have hl:0<(qn_ x).length:=by rw [←yB_];exact (List.getElem?_eq_some_iff.1 h0).1
 exact ⟨0,(qn_ x)[0],[],rfl,List.getElem?_eq_getElem hl,h0,rfl,λv hv=>(List.not_mem_nil hv).elim,hm⟩
theorem yj_ {l:List GI}:∀(n:Nat) (m:MS),(itI l n m).now=m.now
 |0,_=>rfl
 |n+1,m=>(yj_ n (u_ l m)).trans xO_
theorem MTs.small {l:List GI} {T:List (List Int)} {m:MS} (hG:Good T 0 l) (h:MTs l T m):m.st.length<=40/\MemOk m.mem:=by obtain ⟨p,i,K,h⟩:=h;have hT:=hG p i K h.at_ (by rw [Nat.zero_add];exact h.ty);obtain ⟨K0,ks,e,_,h40,_⟩:=hT;have:=congrArg List.length h.st;rw [List.length_map]at this;exact ⟨by omega,h.mem⟩
end Go.Proofs.YtjconanknjgpnaaGreat.vars
set_option maxRecDepth 100000
set_option linter.unusedVariables false
set_option linter.unusedSimpArgs false
namespace Go.Proofs.YtjconanknjgpnaaGreat.vars
open Go Go.Sx
def c60:VC:=⟨⟨[],[]⟩,[],[],0,true,[]⟩
def t60:VT:=Iq 64 1 71 (Dn [J 1])<|Iq 64 2 72 (Dn [J 1])<|Iq 64 3 73 (.done (.tup [J 1,J 1]))<|Iq 64 17 74 (.done (.tup [J 1,J 1]))<|Iq 64 15 75 (.done (.tup [J 1,J 1]))<|Iq 64 16 76 (.done (.tup [J 1,J 1]))<|Iq 64 18 77 (.done (.tup [J 1,J 0]))<|Iq 64 21 78 (.done (.tup [J 1,J 0]))<|Iq 64 19 79 (.done (.tup [J 2,J 0]))<|Iq 64 20 80 (Dn [J 0])<|Iq 64 23 81 (Dn [J 0])<|Iq 64 22 82 (.done (.tup [67,J 0]))<|.done (.tup [J 2,J 1])
def c33:VC:=⟨⟨[],[]⟩,[(60,[none,none]),(50,[(some 3),none]),(51,[(some 3),none])],[(10011,[⟨[],[],0,0,[],[],[(5,1)]⟩])],0,true,[(61,ft61)]⟩
def xs_:VT:=Li Qg [.vsl 0 3 [],67] 74<|Li Q2 [68,J 1] 75<|Li (.iaddr 61) [64,65] 76<|.lt (.load 105) [76] 77 (some 7)<|.call 60 [.agg [77,78,79,80,81,82,83]] 84 [none,none]<|Li Qp [73] 86<|It Q4 [86,84] 87 (Dn [65,73,74,75,69,70,J 12])<|Li Qp [73] 88<|Li Up [88,84] 89<|Li (.slc 31 true false) [73,89] 90<|Li Qp [73] 91<|Li Up [91,84] 92<|Li (.slc 31 false true) [73,92] 93<|Li Qg [.vsl 0 3 [],93] 94<|Li Q2 [65,J 1] 95<|Iq 77 1 96 (Li Qg [94,.agg [81,82,83]] 97<|Dn [95,97,74,75,69,70,71])<|Iq 77 2 97 (Li Q1 [74,79] 98<|.lt Q9 [74,98] 99 (some 3)<|Li Qg [94,.agg [99,100,101]] 102<|Dn [95,102,74,75,69,70,71])<|Iq 77 3 98 (Li Qb [90,J 0] 99<|Li Zd [99] 100<|Li Z7 [100] 101<|It Z2 [101,J 0] 102 (Dn [65,66,67,75,69,70,J 6])<|Li Qb [90,J 0] 103<|Li Zd [103] 104<|Li Z7 [104] 105<|It Qo [105,80] 106 (Dn [65,66,67,75,69,70,J 6])<|Li Qb [90,J 0] 107<|Li Zd [107] 108<|Li Z7 [108] 109<|Li Qv [79,109] 110<|Li Q1 [74,110] 111<|.lt Q9 [74,111] 112 (some 3)<|Li Qg [94,.agg [112,113,114]] 115<|Dn [95,115,74,75,69,70,71])<|Iq 77 18 99 (Li Qb [90,J 0] 100<|.lt Qm [100] 101 (some 3)<|Li Q1 [74,79] 104<|Li Z3 [74,104,.agg [101,102,103]] 105<|.chk (.same 74 105)<|Dn [95,94,105,75,69,70,71])<|Iq 77 19 100 (Li Qb [90,J 1] 101<|Li Zd [101] 102<|Li Z7 [102] 103<|It Z2 [103,J 0] 104 (Dn [65,66,67,75,69,70,J 6])<|Li Qb [90,J 1] 105<|Li Zd [105] 106<|Li Z7 [106] 107<|It Qo [107,80] 108 (Dn [65,66,67,75,69,70,J 6])<|Li Qb [90,J 1] 109<|Li Zd [109] 110<|Li Z7 [110] 111<|Li Qv [79,111] 112<|Li Qb [90,J 0] 113<|.lt Qm [113] 114 (some 3)<|Li Q1 [74,112] 117<|Li Z3 [74,117,.agg [114,115,116]] 118<|.chk (.same 74 118)<|Dn [95,94,118,75,69,70,71])<|Iq 77 20 101 (Dn [79,94,74,75,69,70,71])<|Iq 77 21 102 (Li Qb [90,J 0] 103<|Li Zd [103] 104<|Li Z7 [104] 105<|It Qt [105,J 0] 106 (Dn [79,94,74,75,69,70,71])<|Dn [95,94,74,75,69,70,71])<|Iq 77 22 103 (It .emp [90] 104 .bad<|Li Qg [.vsl 0 3 [],90] 105<|Cf 61 ft61 [74,78,79,105,69] 106 1<|.chk (.same 74 111)<|Dn [95,94,111,75,69,70,71])<|Iq 77 23 104 (Dn [65,94,74,75,69,.bool true,71])<|Iq 77 17 105 (Li Qb [90,J 0] 106<|.lt Qm [106] 107 (some 3)<|.call 50 [78,.agg [107,108,109]] 110 [(some 3),none]<|It Q5 [113,J 0] 114 (Dn [65,66,67,75,69,70,113])<|Li Qg [94,.agg [110,111,112]] 115<|Dn [95,115,74,75,69,70,71])<|Li Qg [.vsl 0 3 [],90] 106<|Li Qg [106,.agg [J 0,J 0,.flt .f64 0]] 107<|Li Q1 [107,J 0] 108<|.lt Q9 [107,108] 109 (some 3)<|Li Q1 [107,J 1] 112<|.lt Q9 [107,112] 113 (some 3)<|.call 51 [77,78,.agg [109,110,111],.agg [113,114,115]] 116 [(some 3),none]<|It Q5 [119,J 0] 120 (Dn [65,66,67,75,69,70,119])<|Li Qg [94,.agg [116,117,118]] 121<|Dn [95,121,74,75,69,70,71]
def t33a:VT:=(.lt (.app 3 24) [.vsl 0 3 [],.sym 66] 73 none xs_)
def t33:VT:=.ite 70 (Dn [65,66,67,68,69,70,71])<|It Q5 [71,J 0] 72 (Dn [65,66,67,68,69,70,71])<|.both (.both (.both (Li (.app 3 24) [.vsl 0 3 [],66] 73<|.both xs_ xs_)<|.both (.both t33a t33a)<|.both t33a t33a)<|.both (.both (.both t33a t33a) t33a)<|.both (.both t33a t33a) t33a)<|.both (.both (.both (Li (.app 3 24) [.vsl 0 3 [],66] 73<|.both xs_ xs_)<|.both (.both t33a t33a)<|.both t33a t33a)<|.both (.both (.both t33a t33a) t33a)<|.both (.both t33a t33a) t33a)<|.both (.both (.both (.both t33a t33a) t33a)<|.both (.both (.both t33a t33a) t33a)<|.both t33a t33a)<|.both (.both (.both t33a t33a) t33a)<|.both (.both (.both t33a t33a) t33a)<|.both t33a t33a
theorem vV_ {Q:AV->Prop} {L:List (Nat->List AV->Prop)} {Y:Sy} {e o:AV} {l:List FV} {j n:Nat} {t:VT} (he:ab_ Y.v [e,o]=[c_ l,.int .i64 (j:Int)]) (hj:j<l.length)
  (h:VOK Tryz.prog Q L (((Y.put n (.vptr (aR_ d_ (l.drop j)))).put (n+1) (.vptr (.int .i64 l[j].i::fv l[j].f::aR_ d_ (l.drop (j+1))))).put (n+2) (.int .i64 l[j].i)) t):
  VOK Tryz.prog Q L Y (.lt (.iaddr 31) [e,o] n none (.lt (.faddr 46 1) [.sym n] (n+1) none (.lt (.load 2) [.sym (n+1)] (n+2) none t))):=by
 refine vv_ (r:=.vptr (aR_ d_ (l.drop j))) (by rw [he];exact qR_ l hj) (kS_ okV _) (vv_ ?_ ?_ (vv_ ?_ rfl h));rw [show ab_ (Y.put n (.vptr (aR_ d_ (l.drop j)))).v [.sym n]=[.vptr (aR_ d_ (l.drop j))] by simp [ab_,den,Sy.put]];rw [List.drop_eq_getElem_cons hj];kernel_rfl;simp only [okC,okL,vM_];exact kS_ okV _;rw [show ∀(Y:Sy) z,ab_ (Y.put (n+1) z).v [.sym (n+1)]=[z] from λY z=>by simp [ab_,den,Sy.put]];kernel_rfl
def y6_ (op:Int):Int:=if 18<=op/\op<=23 then 0 else 1
theorem D6_ {a b c d:Int} (h:a=c) (h':b=d):AV.tup [.int .i64 a,.int .i64 b]=.tup [.int .i64 c,.int .i64 d]:=by rw [h,h']
theorem p60 {i:GI} (hn:i.op=22->0<=i.n):kH_ Tryz.prog 60 [.agg (tS_ i)] (.tup [.int .i64 (f_ i:Int),.int .i64 (y6_ i.op)]):=by
 obtain ⟨op,kd,ad,n,vk,vi,vf⟩:=i;simp only at hn;refine t6_ (sh:=[some 7]) (ls:=tS_ ⟨op,kd,ad,n,vk,vi,vf⟩) (c:=c60) (n:=300) (t:=t60) mo ov rfl (okG _) rfl (λY _=>vC_ _) rfl (by kernel_rfl) λY hf hg=>?_;unfold t60;repeat' (refine a_ rfl rfl ?_ ?_<;>intro h<;>simp only [nc]at h<;>try omega)
 all_goals exact uH_ (D6_ (by unfold f_;simp only;(repeat' split)<;>omega) (by unfold y6_;simp only;split<;>omega))
theorem zw_ {a b:List FV} (h:a.length=b.length):(some (c_ a)=some .nsl/\some (c_ b)=some .nsl)\/∃n z cs ds,some (c_ a)=some (.vsl n z cs)/\some (c_ b)=some (.vsl n z ds):=by
 cases a with
 |nil=>cases b with
  |nil=>exact .inl ⟨rfl,rfl⟩
  |cons y t=>cases h
 |cons x r=>cases b with
  |nil=>cases h
  |cons y t=>refine .inr ⟨r.length+1,3,aR_ d_ (x::r),aR_ d_ (y::t),rfl,?_⟩;show some (AV.vsl (t.length+1) 3 _)=_;rw [show t.length=r.length from (Nat.succ.inj h).symm]
theorem p33 {l:List GI} {T:List (List Int)} {m:MS} {s:AV} (hG:Good T 0 l) (hn: -9223372036854775808<=m.now/\m.now<=9223372036854775807) (hl:l.length<=400) (hu:0<=m.used/\m.used<=1000000) (hmt:MTs l T m) (hs:St m.st s):
  CF Tryz.prog 33 ft33 (i_ l::KR m s) (RKM (u_ l m)):=by
 obtain ⟨p,i,K,h⟩:=hmt;obtain ⟨hp,hi⟩:=List.getElem?_eq_some_iff.1 h.at_;have hT:=hG p i K h.at_ (by rw [Nat.zero_add];exact h.ty);rw [Nat.zero_add]at hT;have hinst:=h.inst;have hm:=h.mem;have hlen:=hm.len;have stuck:vP_ m->u_ l m=m:=λh=>uP_ h;have hpc:=h.pc;have tv:=h.tv;rw [←h.st]at hT;obtain ⟨K0,ks,hK,hks,h40,hT⟩:=hT;obtain ⟨s1,s2⟩:=wU_ hK;rw [hks]at s1 s2;have hl40:m.st.length<=40:=by rw [List.length_map]at h40;exact h40
 have htk:f_ i<=m.st.length:=by have:=congrArg List.length hK;rw [List.length_map,List.length_append,hks]at this;omega
 have v2:∀v∈m.st.drop (m.st.length-f_ i),TV v:=λv hv=>tv v (List.mem_of_mem_drop hv);have h22:i.op=22->0<=i.n:=λh=>by rcases hT with ⟨k,hk,hT⟩|⟨hk,hT⟩|⟨h20,_⟩|h23;rcases hT with ⟨h1,_⟩|⟨h1,_⟩|⟨h1,_⟩|⟨h1,_⟩|⟨h1,_⟩;omega;omega;omega;omega;unfold OpK at h1;omega;rcases hT with ⟨h1,_⟩|⟨h1,_⟩|⟨_,_,h1⟩|⟨h1,_⟩;omega;omega;omega;omega;omega;omega
 have h60:=p60 (i:=i) h22;refine vh_ (c:=c33) (n:=300) (t:=t33) mo ov rfl (λY _=>vC_ _) (by kernel_rfl) λY hf hg=>?_;unfold t33;refine ve_ (t:=m.over) rfl (λhov=>?_) (λhov=>?_);rw [stuck (.inl hov)];exact nk_ hs rfl
 (refine a_ rfl rfl ?_ ?_<;>intro h<;>simp only [nc]at h<;>try omega)
 rw [stuck (.inr h)];exact nk_ hs rfl;have he:m.err=0:=h;have hstep:u_ l m=doI i m (m.st.take (m.st.length-f_ i)) (m.st.drop (m.st.length-f_ i)):=by unfold u_;rw [if_neg (λhh=>by rcases hh with hh|hh;exact (by rw [hov]at hh;cases hh);exact hh he),hinst]
 rw [hstep];obtain ⟨c1,hc1,sc1⟩:=SlV.app (P:=Tryz.prog) (bytes:=24) us_ (by decide) (by decide) (SlV.v []) hs (by simp;omega);rw [List.nil_append]at sc1;obtain ⟨x,hx,sx⟩:=sc1.slc10 (P:=Tryz.prog) (t:=31) (e:=46) (ti:=(Tryz.prog.info? 46).get!) Tryz.underlying31 (by kernel_rfl) (by kernel_rfl) us_ (k:=.i64) (i:=m.st.length-f_ i) (by omega);obtain ⟨y,hy,sy⟩:=sc1.slc01 (P:=Tryz.prog) (t:=31) (e:=46) (ti:=(Tryz.prog.info? 46).get!) Tryz.underlying31 (by kernel_rfl) (by kernel_rfl) us_ (k:=.i64) (j:=m.st.length-f_ i) (by omega);obtain ⟨r,hr,sr⟩:=SlV.app (P:=Tryz.prog) (bytes:=24) us_ (by decide) (by decide) (SlV.v []) sy (by rw [List.length_take];simp;omega);rw [List.nil_append]at sr;obtain ⟨c2,hc2,sc2⟩:=SlV.app (P:=Tryz.prog) (bytes:=24) us_ (by decide) (by decide) (SlV.v []) sx (by rw [List.length_drop];simp;omega);rw [List.nil_append]at sc2;have hlr:(m.st.take (m.st.length-f_ i)).length<=40:=by rw [List.length_take];omega
 have hln:(m.st.drop (m.st.length-f_ i)).length=f_ i:=by rw [List.length_drop];omega
 have hia:=xE_ hp;rw [←hpc]at hia;have hld:=xF_ hp;rw [hi]at hld;have hlen1:=sc1.len Tryz.underlying31;obtain ⟨df,hdf⟩:∃d:Nat,d=m.st.length-f_ i:=⟨_,rfl⟩;have hsb:∀(t:TypeId) (cx cy:Bool),(XOp.bin .sub t cx cy).run Tryz.prog [.int .i64 (m.st.length:Int),.int .i64 (f_ i:Int)]=some (.int .i64 ((m.st.length-f_ i:Nat):Int)):=λt cx cy=>G_ (by omega) (by omega) (by omega);have hltk:¬(m.st.length:Int)<(f_ i:Int):=by omega
 generalize m.st.take (m.st.length-f_ i)=rest at*;generalize m.st.drop (m.st.length-f_ i)=inn at*;have app1:∀v,∃z,(XOp.app 3 24).run Tryz.prog [r,.agg (d_ v)]=some z/\St (rest++[v]) z:=λv=>sr.app1 (bytes:=24) us_ (by decide) (by decide) v (by omega);have key:∀z,VOK Tryz.prog (QF (RKM (doI i m rest inn))) [] (((Y.puts 64 (i_ l::KR m s)).put 72 z).put 73 c1) xs_:=by
  intro z72;unfold xs_;refine vv_ (xV_ hm) (aM_ _) (vv_ (g_ (x:=m.used) (by omega) (by omega)) rfl (vv_ hia (kS_ okG _) (vf_ hld rfl (okG i) (uG_ h60 rfl rfl (vv_ hlen1 rfl ?_)))))
  (refine a_ rfl rfl ?_ ?_<;>intro h<;>simp only [nc]at h<;>try omega)
  refine vv_ hlen1 rfl (vv_ (hsb _ _ _) rfl (vv_ hx (St.okC sx) (vv_ hlen1 rfl (vv_ (hsb _ _ _) rfl (vv_ hy (St.okC sy) (vv_ hr (St.okC sr) (vv_ (g_ (x:=m.pc) (by omega) (by omega)) rfl ?_)))))));clear hf hg hlen1 hsb hx hy hr h60 hld hia hc1 sc1 stuck hinst hstep hi;obtain ⟨op,kd,ad,n,vk,vi,vf⟩:=i;simp only at hT;rcases hT with ⟨k,hk,hT⟩|⟨hk,hT⟩|⟨h20,q,hq,hT⟩|h23
  .rcases hT with ⟨h1,h2,h3⟩|⟨h1,h2⟩|⟨h1,h2,h3,h4,h5⟩|⟨h1,h2,h3,h4,h5,h6⟩|⟨h1,h2,h3⟩
   .subst h1;rw [wl_ (v:=⟨vk,vi,some vf⟩) (by show (1:Int)<=17;decide) rfl];obtain ⟨z,hz,sz⟩:=app1 ⟨vk,vi,some vf⟩
    (refine a_ rfl rfl ?_ ?_<;>intro h<;>simp only [nc]at h<;>try omega)
    exact vv_ hz (St.okC sz) (nk_ (m:=goM m (m.pc+1) (rest++[(⟨vk,vi,some vf⟩:FV)]) m.mem) sz rfl)
   .subst h1;obtain ⟨q1,q2,q3⟩:=cells_k _ h2;simp only at q1 q2;obtain ⟨j,rfl⟩:∃j:Nat,ad=(j:Int):=⟨ad.toNat,by omega⟩;have hj:j<m.mem.length:=(by omega);rw [wl_ (v:=m.mem[j]) (by show (2:Int)<=17;decide) (by show Except.ok (cell m.mem (j:Int))=_;rw [v2_ hj])];obtain ⟨z,hz,sz⟩:=app1 m.mem[j]
    (refine a_ rfl rfl ?_ ?_<;>intro h<;>simp only [nc]at h<;>try omega)
    (refine a_ rfl rfl ?_ ?_<;>intro h<;>simp only [nc]at h<;>try omega)
    exact vv_ (s_ m.mem hj) rfl (vf_ (rp_ m.mem hj) rfl (okV _) (vv_ hz (St.okC sz) (nk_ (m:=goM m (m.pc+1) (rest++[m.mem[j]]) m.mem) sz rfl)))
   .subst h1 h2 h3;obtain ⟨a,rfl,hak⟩:∃x,inn=[x]/\(x.k=2\/x.k=3):=by rcases h5 with h5|h5;obtain ⟨x,e,hx⟩:=I_ (s2.trans h5);exact ⟨x,e,.inl hx⟩;obtain ⟨x,e,hx⟩:=I_ (s2.trans h5);exact ⟨x,e,.inr hx⟩
    obtain rfl:x=c_ [a]:=sx.eq (by simp);have ht:∀b,v0_ ⟨3,kd,8,4,vk,vi,vf⟩ m.mem a b=if a.i<0\/4<=a.i then .error 6 else .ok (cell m.mem (8+a.i)):=λb=>by rw [v1_ (by show (3:Int)≠1;decide) (by show (3:Int)≠2;decide)];rfl
    have bad:a.i<0\/4<=a.i->doI ⟨3,kd,8,4,vk,vi,vf⟩ m rest [a]=vN_ m 6:=λhr=>xx_ (e:=6) (by show (3:Int)<=17;decide) ((ht _).trans (if_pos hr))
    (refine a_ rfl rfl ?_ ?_<;>intro h<;>simp only [nc]at h<;>try omega)
    (refine a_ rfl rfl ?_ ?_<;>intro h<;>simp only [nc]at h<;>try omega)
    (refine a_ rfl rfl ?_ ?_<;>intro h<;>simp only [nc]at h<;>try omega)
    refine vV_ (l:=[a]) (j:=0) rfl (by simp) ?_
    (refine a_ rfl rfl ?_ ?_<;>intro h<;>simp only [nc]at h<;>try omega)
    rw [bad (.inl h)];exact nk_ (m:=vN_ m 6) hs rfl;have h0:=h;refine vV_ (l:=[a]) (j:=0) rfl (by simp) ?_
    (refine a_ rfl rfl ?_ ?_<;>intro h<;>simp only [nc]at h<;>try omega)
    rw [bad (.inr h)];exact nk_ (m:=vN_ m 6) hs rfl;have hr':¬(a.i<0\/4<=a.i):=(by have h0:0<=a.i:=h0;have h4:a.i<4:=h;omega);obtain ⟨j,hj0⟩:∃j:Nat,8+a.i=(j:Int):=⟨(8+a.i).toNat,by omega⟩;have hj:j<m.mem.length:=(by omega);rw [wl_ (v:=m.mem[j]) (by show (3:Int)<=17;decide) (by show v0_ _ _ a _=_;rw [ht,if_neg hr',hj0,v2_ hj])];obtain ⟨z,hz,sz⟩:=app1 m.mem[j];refine vV_ (l:=[a]) (j:=0) rfl (by simp) (vv_ (g_ (x:=8) (y:=a.i) (by omega) (by omega)) rfl ?_);rw [hj0];exact vv_ (s_ m.mem hj) rfl (vf_ (rp_ m.mem hj) rfl (okV _) (vv_ hz (St.okC sz) (nk_ (m:=goM m (m.pc+1) (rest++[m.mem[j]]) m.mem) sz rfl)))
   .subst h1 h4;obtain ⟨a,rfl,ha⟩:=I_ (s2.trans h5);obtain rfl:x=c_ [a]:=sx.eq (by simp);have ht:∀b,v0_ ⟨17,k,ad,n,vk,vi,vf⟩ m.mem a b=w_ k a:=λb=>by rw [v1_ (by show (17:Int)≠1;decide) (by show (17:Int)≠2;decide)];rfl
    repeat (refine a_ rfl rfl ?_ ?_<;>intro h<;>simp only [nc]at h<;>try omega)
    refine vv_ (qR_ [a] (i:=0) (by simp)) (kS_ okV _) (vf_ (qV_ [a] (i:=0) (by simp)) rfl (okV a) ?_);refine uG_ (vs:=d_ (wy_ k a)++[.int .i64 (wx_ k a)]) (p50 ⟨h2,h3⟩ a (by omega)) rfl (AY_ _ _) ?_;cases hc:w_ k a with
    |ok v=>obtain ⟨e1,e2⟩:=v3_ hc;rw [e1,e2,wl_ (v:=v) (by show (17:Int)<=17;decide) ((ht _).trans hc)];obtain ⟨z,hz,sz⟩:=app1 v;refine vv_ (run_neq ..) rfl (ve_ rfl (λh=>by cases h) (λ_=>?_));exact vv_ hz (St.okC sz) (nk_ (m:=goM m (m.pc+1) (rest++[v]) m.mem) sz rfl)
    |error e=>obtain ⟨e1,e2⟩:=yd_ hc;have he:=w9_ hc;rw [e1,e2,xx_ (e:=e) (by show (17:Int)<=17;decide) ((ht _).trans hc)];subst he;exact vv_ (run_neq ..) rfl (ve_ rfl (λ_=>nk_ (m:=vN_ m 7) hs rfl) (λh=>by cases h))
   .have hop:=h1;unfold OpK at hop;have h317:op≠3/\op≠17:=⟨by omega,by omega⟩;have ht:∀a b,v0_ ⟨op,kd,ad,n,vk,vi,vf⟩ m.mem a b=opX op a b:=λa b=>(by rw [v1_ (by show op≠1;omega) (by show op≠2;omega)];exact xI_ h317.1 h317.2);obtain ⟨a,b,c,ta,hak,hbc,ea,ec,hl2⟩:∃a b c:FV,TV a/\a.k=kd/\opX op a b=opX op a c/\inn.headD FV.z=a/\inn.getLastD FV.z=c/\∃t,inn++[FV.z]=a::b::t:=(by rcases h3 with ⟨h3,h4⟩|⟨h3,h4⟩;obtain ⟨a,rfl,ha⟩:=I_ (s2.trans h3);exact ⟨a,FV.z,a,v2 a List.mem_cons_self,ha,A1_ _ _ h4 (by rw [ha];exact h1),rfl,rfl,[],rfl⟩;obtain ⟨a,b,rfl,ha,hb⟩:=rI_ (s2.trans h3);exact ⟨a,b,b,v2 a List.mem_cons_self,ha,rfl,rfl,rfl,[FV.z],rfl⟩);obtain ⟨t,hl2⟩:=hl2;obtain ⟨z,hz,sz⟩:=sc2.app1 (P:=Tryz.prog) (bytes:=24) us_ (by decide) (by decide) FV.z (by omega);rw [hl2]at sz;obtain rfl:z=c_ (a::b::t):=sz.eq (by simp);have hd:doI ⟨op,kd,ad,n,vk,vi,vf⟩ m rest inn=(match opX op a b with| .error e=>vN_ m e| .ok v=>goM m (m.pc+1) (rest++[v]) m.mem):=(by rw [wF_ (by show op<=17;omega),ea,ec,ht,hbc]<;>rfl);clear ea ec hl2 h3 sz;subst hak;repeat (refine a_ rfl rfl ?_ ?_<;>intro h<;>simp only [nc]at h<;>try omega)
    refine vv_ hc2 (St.okC sc2) (vv_ hz (aM_ _) (vv_ (s_ (a::b::t) (i:=0) (by simp)) rfl (vf_ (rp_ (a::b::t) (i:=0) (by simp)) rfl (okV a) (vv_ (s_ (a::b::t) (i:=1) (by simp)) rfl (vf_ (rp_ (a::b::t) (i:=1) (by simp)) rfl (okV b) ?_)))));refine uG_ (vs:=d_ (opW op a.k a b)++[.int .i64 (opE op a.k b)]) (p51 h1 ta rfl) rfl (AY_ _ _) ?_;rw [hd];by_cases h0:opE op a.k b=0;rw [show opX op a b=.ok (opV op a.k a b) from if_pos h0,show opW op a.k a b=opV op a.k a b from if_pos h0,h0];obtain ⟨z,hz,sz⟩:=app1 (opV op a.k a b);refine vv_ (run_neq ..) rfl (ve_ rfl (λh=>by cases h) (λ_=>?_));exact vv_ hz (St.okC sz) (nk_ (m:=goM m (m.pc+1) (rest++[opV op a.k a b]) m.mem) sz rfl);rw [show opX op a b=.error (opE op a.k b) from if_neg h0];refine vv_ (run_neq ..) rfl (ve_ rfl (λ_=>nk_ (m:=vN_ m (opE op a.k b)) hs rfl) (λh=>?_));simp at h;exact absurd h h0
  .rcases hT with ⟨h1,k,h2,h3⟩|⟨h1,h2,h3,h4⟩|⟨h1,h2,h3⟩|⟨h1,h2,q,h3,h4⟩
   .subst h1;obtain ⟨v,rfl,hv⟩:=I_ (s2.trans h2);obtain rfl:x=c_ [v]:=sx.eq (by simp);obtain ⟨q1,q2,q3⟩:=wr_k _ h3;simp only at q1 q2;obtain ⟨j,rfl⟩:∃j:Nat,ad=(j:Int):=⟨ad.toNat,by omega⟩;have hj:j<m.mem.length:=(by omega);rw [BE_ rfl];repeat (refine a_ rfl rfl ?_ ?_<;>intro h<;>simp only [nc]at h<;>try omega)
    exact vv_ (qR_ [v] (i:=0) (by simp)) (kS_ okV _) (vf_ (qV_ [v] (i:=0) (by simp)) rfl (okV v) (vv_ (s_ m.mem hj) rfl (vv_ (vl_ m.mem hj v) (aM_ _) (vd_ (vm_ m.mem j v) (nk_ (m:=goM m (m.pc+1) rest (m.mem.set j v)) sr rfl)))))
   .subst h1 h2 h3;obtain ⟨v,a,rfl,hv,ha⟩:∃v x,inn=[v,x]/\v.k=2/\(x.k=2\/x.k=3):=by rcases h4 with h4|h4;obtain ⟨v,x,e,h,h'⟩:=rI_ (s2.trans h4);exact ⟨v,x,e,h,.inl h'⟩;obtain ⟨v,x,e,h,h'⟩:=rI_ (s2.trans h4);exact ⟨v,x,e,h,.inr h'⟩
    obtain rfl:x=c_ [v,a]:=sx.eq (by simp);have hq:doI ⟨19,kd,8,4,vk,vi,vf⟩ m rest [v,a]=if a.i<0\/4<=a.i then vN_ m 6 else goM m (m.pc+1) rest (m.mem.set (8+a.i).toNat v):=AG_ (i:=⟨19,kd,8,4,vk,vi,vf⟩) (m:=m) (rest:=rest) (inn:=[v,a]) rfl
    (refine a_ rfl rfl ?_ ?_<;>intro h<;>simp only [nc]at h<;>try omega)
    (refine a_ rfl rfl ?_ ?_<;>intro h<;>simp only [nc]at h<;>try omega)
    (refine a_ rfl rfl ?_ ?_<;>intro h<;>simp only [nc]at h<;>try omega)
    (refine a_ rfl rfl ?_ ?_<;>intro h<;>simp only [nc]at h<;>try omega)
    (refine a_ rfl rfl ?_ ?_<;>intro h<;>simp only [nc]at h<;>try omega)
    refine vV_ (l:=[v,a]) (j:=1) rfl (by simp) ?_
    (refine a_ rfl rfl ?_ ?_<;>intro h<;>simp only [nc]at h<;>try omega)
    rw [hq,if_pos (.inl h)];exact nk_ (m:=vN_ m 6) hs rfl;have h0:=h;refine vV_ (l:=[v,a]) (j:=1) rfl (by simp) ?_
    (refine a_ rfl rfl ?_ ?_<;>intro h<;>simp only [nc]at h<;>try omega)
    rw [hq,if_pos (.inr h)];exact nk_ (m:=vN_ m 6) hs rfl;have hr':¬(a.i<0\/4<=a.i):=(by have h0:0<=a.i:=h0;have h4:a.i<4:=h;omega);rw [hq,if_neg hr'];obtain ⟨j,hj0⟩:∃j:Nat,8+a.i=(j:Int):=⟨(8+a.i).toNat,by omega⟩;have hj:j<m.mem.length:=(by omega);have hjn:(8+a.i).toNat=j:=(by omega);rw [hjn];refine vV_ (l:=[v,a]) (j:=1) rfl (by simp) (vv_ (g_ (x:=8) (y:=a.i) (by omega) (by omega)) rfl ?_);rw [hj0];exact vv_ (qR_ [v,a] (i:=0) (by simp)) (kS_ okV _) (vf_ (qV_ [v,a] (i:=0) (by simp)) rfl (okV v) (vv_ (s_ m.mem hj) rfl (vv_ (vl_ m.mem hj v) (aM_ _) (vd_ (vm_ m.mem j v) (nk_ (m:=goM m (m.pc+1) rest (m.mem.set j v)) sr rfl)))))
   .subst h1;rw [←s2]at h2;have hne:inn≠[]:=λe=>by rw [e]at h2;rcases h2 with ⟨_,_,h⟩|⟨_,_,h⟩|⟨_,_,h⟩<;>cases h
    obtain rfl:x=c_ inn:=sx.eq hne;obtain rfl:c2=c_ inn:=sc2.eq hne;have hr2: -9223372036854775808<=(inn.tail.headD FV.z).i/\(inn.tail.headD FV.z).i<=9223372036854775807:=by
     match inn,v2 with
     |[],_=>show (-9223372036854775808:Int)<=0/\(0:Int)<=9223372036854775807;omega
     |[a],_=>show (-9223372036854775808:Int)<=0/\(0:Int)<=9223372036854775807;omega
     |a::b::t,v2=>exact (v2 b (List.mem_cons_of_mem _ List.mem_cons_self)).1.i64
    have hc:=p61 hm hn h2 (List.length_map _).symm hr2;have hemp:(XOp.emp).run Tryz.prog [c_ inn]=some (.bool false):=by
     cases inn with
     |nil=>exact absurd rfl hne
     |cons a b=>rfl
    rw [BH_ rfl];repeat (refine a_ rfl rfl ?_ ?_<;>intro h<;>simp only [nc]at h<;>try omega)
    refine vv_ hemp rfl (ve_ (t:=false) rfl (λh=>by cases h) (λ_=>vv_ hc2 (aM_ _) (uv_ hc (by show okL [c_ m.mem,.int .i64 kd,.int .i64 ad,c_ inn,.int .i64 m.now]=true;simp only [okL,okC,aM_]) ⟨?_,trivial⟩)));rintro ws rfl;refine vd_ (zw_ (hlen.trans (w8_ h2 hm _ hr2.2 hn).1.len.symm)) (nk_ (m:=goM m (m.pc+1) rest (n_ m.now kd m.mem (decide ((inn.headD FV.z).i≠0)) (inn.tail.headD FV.z).i)) sr rfl)
   .subst h1;obtain ⟨a,rfl,ha⟩:=I_ (s2.trans h2);obtain rfl:x=c_ [a]:=sx.eq (by simp);rw [BG_ rfl];repeat (refine a_ rfl rfl ?_ ?_<;>intro h<;>simp only [nc]at h<;>try omega)
    refine vV_ (l:=[a]) (j:=0) rfl (by simp) ?_
    (refine a_ rfl rfl ?_ ?_<;>intro h<;>simp only [nc]at h<;>try omega)
    refine nk_ (m:=goM m (if a.i=0 then ad else m.pc+1) rest m.mem) sr ?_;show _=KR (goM m (if a.i=0 then ad else m.pc+1) rest m.mem) r;rw [if_pos (show a.i=0 from h)];rfl;refine nk_ (m:=goM m (if a.i=0 then ad else m.pc+1) rest m.mem) sr ?_;show _=KR (goM m (if a.i=0 then ad else m.pc+1) rest m.mem) r;rw [if_neg (show ¬a.i=0 from h)];rfl
  .subst h20;rw [BF_ rfl];repeat (refine a_ rfl rfl ?_ ?_<;>intro h<;>simp only [nc]at h<;>try omega)
   exact nk_ (m:=goM m ad rest m.mem) sr rfl
  .subst h23;rw [BI_ rfl];repeat (refine a_ rfl rfl ?_ ?_<;>intro h<;>simp only [nc]at h<;>try omega)
   exact nk_ (m:=⟨m.pc,rest,m.mem,m.used+1,m.now,true,m.err⟩) sr rfl
 have A:∀z,VOK Tryz.prog (QF (RKM (doI i m rest inn))) [] ((Y.puts 64 (i_ l::KR m s)).put 72 z) t33a:=λz=>vv_ hc1 (St.okC sc1) (key z);have B:∀z,VOK Tryz.prog (QF (RKM (doI i m rest inn))) [] ((Y.puts 64 (i_ l::KR m s)).put 72 z) (.lt (.app 3 24) [.vsl 0 3 [],.sym 66] 73 none (.both xs_ xs_)):=λz=>vv_ hc1 (St.okC sc1) ⟨key z,key z⟩;have A:=A (.bool (@decide (Cmp .neq m.err 0) (Classical.propDecidable (Cmp .neq m.err 0))));have B:=B (.bool (@decide (Cmp .neq m.err 0) (Classical.propDecidable (Cmp .neq m.err 0))));exact ⟨⟨⟨B,⟨⟨A,A⟩,⟨A,A⟩⟩⟩,⟨⟨⟨A,A⟩,A⟩,⟨⟨A,A⟩,A⟩⟩⟩,⟨⟨⟨B,⟨⟨A,A⟩,⟨A,A⟩⟩⟩,⟨⟨⟨A,A⟩,A⟩,⟨⟨A,A⟩,A⟩⟩⟩,⟨⟨⟨⟨A,A⟩,A⟩,⟨⟨⟨A,A⟩,A⟩,⟨A,A⟩⟩⟩,⟨⟨⟨A,A⟩,A⟩,⟨⟨⟨A,A⟩,A⟩,⟨A,A⟩⟩⟩⟩⟩⟩
end Go.Proofs.YtjconanknjgpnaaGreat.vars
set_option maxRecDepth 100000
set_option linter.unusedVariables false
set_option linter.unusedSimpArgs false
namespace Go.Proofs.YtjconanknjgpnaaGreat.vars
open Go Go.Sx
def c8:VC:=⟨⟨[],[]⟩,[(27,[none]),(28,[none,none]),(29,[(some 7)]),(30,[(some 7)]),(31,[none])],[(0,[⟨[(9,77),(12,.ptr 3 0),(13,.ptr 4 0),(14,.slx 0 0 0)],[(3,[.slx 1 0 0,.slx 2 0 0,.slx 3 0 0,.slx 4 0 0,.slx 5 0 0,.slx 6 0 0,.slx 7 0 0]),(4,[.slx 8 0 0,.slx 9 0 0,.slx 10 0 0,.slx 11 0 0,.slx 12 0 0,.slx 13 0 0,.slx 14 0 0])],5,15,[],[],[]⟩])],0,true,[(13,ft13),(14,ft14),(15,ft15),(32,AK_),(33,ft33)]⟩
def t8:VT:=.call 27 [] 67 [none]<|It Q3 [67] 68 (.done (.bool false))<|Li Ql [64] 69<|It Qc [69,J 200] 70 (.done (.bool true))<|Li Ql [65] 71<|It Qc [71,J 60] 72 (.done (.bool true))<|Cf 13 ft13 [64] 73 3<|.call 28 [.agg [74,75]] 77 [none,none]<|It Q3 [76] 79 (.done (.bool true))<|It Q5 [78,J 0] 80 (.done (.bool true))<|Cf 14 ft14 [65] 81 0<|Cf 15 ft15 [65,J 0] 82 2<|Li Z5 [66] 86<|.call 29 [84,86] 87 [(some 7)]<|Li Z5 [66] 94<|.call 30 [84,94] 95 [(some 7)]<|.loop 102 0 [J 0,87,88,89,90,91,92,93,95,96,97,98,99,100,101] (.cons 15 (It Z6 [102,J 150] 117 (.call 31 [.agg [103,104,105,106,107,108,109],.agg [110,111,112,113,114,115,116]] 118 [none]<|It Q3 [118] 119 (.done (.bool false))<|Cf 32 AK_ [77,103,104,105,106,107,108,109] 120 7<|Cf 33 ft33 [77,110,111,112,113,114,115,116] 135 7<|Li Q2 [102,J 1] 150<|.again 0 0 [150,128,129,130,131,132,133,134,143,144,145,146,147,148,149])<|.call 31 [.agg [103,104,105,106,107,108,109],.agg [110,111,112,113,114,115,116]] 118 [none]<|.done (118)) .nil)
theorem p8 {l l2:List UInt8} {a a2:AV} (hp:Pk l a) (hp2:Pk l2 a2) (w:Nat) (hw:w<65536):kH_ Tryz.prog 8 [a,a2,.int .u16 (w:Int)] (.bool true):=by
 have hA:=hp.1.ok wt_;have hA2:=hp2.1.ok wt_;refine t6_ (sh:=[none,none,none]) (ls:=[a,a2,.int .u16 (w:Int)]) (c:=c8) (n:=300) (t:=t8) mo ov rfl (by simp only [okL,okC,hA,hA2]) rfl (λY _=>vC_ _) rfl (by kernel_rfl) λY hf hg=>?_;unfold t8;refine uG_ k27 rfl rfl (vv_ rfl rfl (ve_ (t:=false) rfl (λh=>by cases h) (λ_=>?_)));refine vv_ (ze_ hp) rfl (vv_ (run_gtr ..) rfl (ve_ rfl (λ_=>uH_ rfl) (λ_=>?_)));refine vv_ (ze_ hp2) rfl (vv_ (run_gtr ..) rfl (ve_ rfl (λ_=>uH_ rfl) (λ_=>?_)));refine b_ (p13 hp) rfl (by simp only [okL,hA]) ⟨?_,trivial⟩;rintro ws ⟨v,b,e,rfl,hv,h0,hb⟩;obtain ⟨hbl,hT⟩:=zV_ h0 λh=>(hb h).2;refine uG_ (p28 (d:=3) hv hbl hT (by have:=AQ_ hbl hT 0;omega)) rfl (by show okL [pl b,.int .i64 (pe b)]=true;simp only [okL,okC,BW_]) ?_;refine vv_ (vq_ ..) rfl (ve_ rfl (λ_=>uH_ rfl) (λhe=>?_));have he:e=true:=by simpa using he
 obtain ⟨rfl,_,_⟩:=hb he;refine vv_ (run_neq ..) rfl (ve_ rfl (λ_=>uH_ rfl) (λhpe=>?_));obtain ⟨hl,hpl⟩:=zg_ (x:=b) (by simpa using hpe);refine b_ (p14 a2 hA2) rfl (by simp only [okL,hA2]) ⟨?_,trivial⟩;rintro ws rfl;refine b_ (p15 hp2 (Nat.zero_le _)) rfl (by simp only [okL,okC,hA2]) ⟨?_,trivial⟩;rintro ws ⟨mem,n2,rfl,hm,hn2⟩;rw [hpl];have hG:=BO_ hT;have hlen:=yB_ b;have hM:=λnow=>zj_ hT hm (now:=now);have hw': -9223372036854775808<=(w:Int)/\(w:Int)<=9223372036854775807:=by omega
 have hit:=λn=>y7_ hlen hG n (vZ_ mem w) hw' (hM w);have hus:=λn=>xG_ (l:=qn_ b) n (vZ_ mem w);have hnw:=λn=>yj_ (l:=qn_ b) n (vZ_ mem w);have hsuc:=λn=>y8_ (qn_ b) n (vZ_ mem w);have p29':=p29 hm w;have p30':=p30 hm w;have hu0:(vZ_ mem w).used=0:=rfl;have hn0:(vZ_ mem w).now=w:=rfl;have hst0:St (vZ_ mem w).st .nsl:=.inr ⟨rfl,rfl⟩;have h00:itI (qn_ b) 0 (vZ_ mem w)=vZ_ mem w:=rfl;refine vv_ (yY_ w hw) rfl (uG_ p29' rfl (C_ _ rfl) (vv_ (yY_ w hw) rfl (uG_ p30' rfl (C_ _ rfl) ?_)));generalize vZ_ mem w=m0 at*;refine uI_ (ι:=Nat×AV×AV) (λx=>.int .i64 (x.1:Int)::(KR (itI (qn_ b) x.1 m0) x.2.1++KR (itI (qn_ b) x.1 m0) x.2.2)) (λx=>x.1<=150/\St (itI (qn_ b) x.1 m0).st x.2.1/\St (itI (qn_ b) x.1 m0).st x.2.2) (λx=>150-x.1) (0,.nsl,.nsl) ⟨Nat.zero_le _,hst0,hst0⟩ rfl (λx h=>by rw [a1_];exact x1_ _ (St.okC h.2.1) (C_ _ (St.okC h.2.2))) (λx x' _ _ h=>by simp only [List.cons.injEq,AV.int.injEq,true_and]at h;have:=h.1;omega) (λx hx=>?_);obtain ⟨i,s,s'⟩:=x;obtain ⟨k1,k2,k3⟩:=hx;simp only at k1 k2 k3⊢;have hmt:=hit i;have hui:=hus i;rw [hu0]at hui;have hni: -9223372036854775808<=(itI (qn_ b) i m0).now/\(itI (qn_ b) i m0).now<=9223372036854775807:=by rw [hnw,hn0];exact hw'
 have e32:=p32 hG hni hl ⟨by omega,by omega⟩ hmt k2;have e33:=p33 hG hni hl ⟨by omega,by omega⟩ hmt k3;rw [←hsuc]at e32 e33;obtain ⟨hsm,hmm⟩:=hmt.small hG;have hml:=hmm.len;have e31:=p31 k2 k3 (by omega) (by omega)
 (refine a_ rfl rfl ?_ ?_<;>intro h<;>simp only [nc]at h<;>try omega)
 have hi:i<150:=(by omega);refine uG_ e31 rfl rfl (vv_ (r:=.bool false) rfl rfl (ve_ (t:=false) rfl (λh=>by cases h) (λ_=>?_)));refine b_ e32 rfl (by rw [a1_,okI];exact C_ _ (St.okC k2)) ⟨?_,trivial⟩;rintro ws ⟨s5,hs5,rfl⟩;refine b_ e33 rfl (by rw [a1_,okI];exact C_ _ (St.okC k3)) ⟨?_,trivial⟩;rintro ws ⟨s6,hs6,rfl⟩;exact vv_ (g_ (by omega) (by omega)) rfl (uu_ rfl ⟨(i+1,s5,s6),⟨by simp only;omega,hs5,hs6⟩,rfl,by simp only;omega⟩);exact uG_ e31 rfl rfl (uH_ rfl)
theorem q8 {w:Int} (wn:(Lit.int .u16 w).wf=true) {l l2:List UInt8} {a a2:AV} (sl:SlV v4_ 1 l a) (m:l.length<=maxLen) (sl2:SlV v4_ 1 l2 a2) (m2:l2.length<=maxLen):kH_ Tryz.prog 8 [a,a2,.int .u16 w] (.bool true):=by
 have hw:0<=w/\w<=65535:=by simpa [Lit.wf,IntKind.min,IntKind.max,IntKind.bits,IntKind.signed]using wn
 obtain ⟨k,rfl⟩:=Int.eq_ofNat_of_zero_le hw.1;simp only [maxLen]at m m2;exact p8 ⟨sl,by omega⟩ ⟨sl2,by omega⟩ k (by omega)
end Go.Proofs.YtjconanknjgpnaaGreat.vars
