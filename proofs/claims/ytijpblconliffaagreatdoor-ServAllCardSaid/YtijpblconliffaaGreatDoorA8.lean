/-
  The server: an answer; Serve.
-/
import Derived.Test.YtijpblconliffaaGreatDoorA3
import Derived.Test.YtijpblconliffaaGreatDoorFA
import Derived.Test.YtijpblconliffaaGreatDoorSyS
set_option maxRecDepth 100000
set_option linter.unusedVariables false
set_option linter.unusedSimpArgs false
namespace Go.Proofs.YtijpblconliffaaGreatDoor.vars
open Go Go.Sx
def m_ (id err n:Int) (p:SV I_ 1) (v:SV k_ 3):GM:=⟨6,id,err,n,0,false,0,FV.z,p,v⟩
structure AN where
 a:GM
 waits:Bool
 subs:SV g_ 15
 num:Int
 mail:SV encR 4
def b_ (q:ST) (who:Int) (s:GS) (mail:SV encR 4) (now:Int) (m:GM):AN:=
 if m.kind=1 then match e_ m.paths.l with
  | .ok ts=>⟨m_ m.id 0 0 .nil (.of (ts.map (B_ q.im.l))),false,s.subs,s.num,mail⟩
  | .error e=>⟨m_ m.id e 0 .nil .nil,false,s.subs,s.num,mail⟩
 else if m.kind=2 then match n_ q who mail.l m with
  | .ok l=>⟨m_ m.id 0 0 .nil .nil,true,s.subs,s.num,.of l⟩
  | .error e=>⟨m_ m.id e 0 .nil .nil,false,s.subs,s.num,mail⟩
 else if m.kind=3 then if Q_ m.n=true then ⟨m_ m.id 0 (H_ TL m.n.toNat) (.of ((w_ TL m.n.toNat).map GG.path)) .nil,false,s.subs,s.num,mail⟩else ⟨m_ m.id 1 0 .nil .nil,false,s.subs,s.num,mail⟩
 else if m.kind=4 then match G_ s.subs.l s.num now m with
  | .ok w=>⟨m_ m.id 0 (IntKind.i64.wrap (s.num+1)) .nil .nil,false,.of (s.subs.l++[w]),IntKind.i64.wrap (s.num+1),mail⟩
  | .error e=>⟨m_ m.id e 0 .nil .nil,false,s.subs,s.num,mail⟩
 else if m.kind=5 then match F_ m.n s.subs.l with
  |some i=>⟨m_ m.id 0 0 .nil .nil,false,.v (s.subs.l.eraseIdx i),s.num,mail⟩
  |none=>⟨m_ m.id 11 0 .nil .nil,false,s.subs,s.num,mail⟩
 else ⟨m_ m.id 0 0 .nil .nil,false,s.subs,s.num,mail⟩
def wb_ (an:AN):List AV:=an.subs.x::.int .i64 an.num::an.mail.x::(f_ an.a++[.bool an.waits])
theorem yw_ (an:AN):okL (wb_ an)=true:=by simp only [wb_,aY_,an.subs.ok M_,an.mail.ok r_,okC,Bool.true_and];exact kN_.okL_join (v_ _) rfl
theorem wj_ (q:ST) (who:Int) (s:GS) (mail:SV encR 4) (now:Int) (m:GM) (id:Int):okL (bk_ q who s mail now++f_ m++[.int .i64 id])=true:=kN_.okL_join (ve_ ..) rfl
def c27:VC:=⟨⟨[],[]⟩,[],[],2,true,[(52,wZ_),(53,ft53),(54,w0_),(55,ft55),(56,ft56)]⟩
def t27:VT:=
 (K Q1 [89,J 1] 101
 (.ite 101
 (.callF 52 wZ_ [64,65,66,67,68,69,70,71,72,73,74,75,76,77,78,79,80,81,82,83,84,85,86,87,88,89,90,91,92,93,94,95,96,97,98,99,100,90] 102
 (.cons 1
 (.done (.tup [J 0,85,86,87,J 6,90,J 0,J 0,J 0,.bool false,J 0,J 0,J 0,.flt .f64 0,.nsl,140,.bool false]))
 (.cons 1
 (.done (.tup [J 0,85,86,87,J 6,90,140,J 0,J 0,.bool false,J 0,J 0,J 0,.flt .f64 0,.nsl,.nsl,.bool false]))
 .nil)))
 (K Q1 [89,J 2] 102
 (.ite 102
 (.callF 53 ft53 [64,65,66,67,68,69,70,71,72,73,74,75,76,77,78,79,80,81,82,83,84,85,86,87,88,89,90,91,92,93,94,95,96,97,98,99,100] 103
 (.cons 1
 (.done (.tup [J 0,85,86,140,J 6,90,J 0,J 0,J 0,.bool false,J 0,J 0,J 0,.flt .f64 0,.nsl,.nsl,.bool true]))
 (.cons 1
 (.done (.tup [J 0,85,86,87,J 6,90,140,J 0,J 0,.bool false,J 0,J 0,J 0,.flt .f64 0,.nsl,.nsl,.bool false]))
 .nil)))
 (K Q1 [89,J 3] 103
 (.ite 103
 (.callF 54 w0_ [64,65,66,67,68,69,70,71,72,73,74,75,76,77,78,79,80,81,82,83,84,85,86,87,88,89,90,91,92,93,94,95,96,97,98,99,100,90] 104
 (.cons 2
 (.done (.tup [J 0,85,86,87,J 6,90,J 0,142,J 0,.bool false,J 0,J 0,J 0,.flt .f64 0,143,.nsl,.bool false]))
 (.cons 1
 (.done (.tup [J 0,85,86,87,J 6,90,142,J 0,J 0,.bool false,J 0,J 0,J 0,.flt .f64 0,.nsl,.nsl,.bool false]))
 .nil)))
 (K Q1 [89,J 4] 104
 (.ite 104
 (.callF 55 ft55 [64,65,66,67,68,69,70,71,72,73,74,75,76,77,78,79,80,81,82,83,84,85,86,87,88,89,90,91,92,93,94,95,96,97,98,99,100,90] 105
 (.cons 3
 (.done (.tup [J 0,143,144,87,J 6,90,J 0,145,J 0,.bool false,J 0,J 0,J 0,.flt .f64 0,.nsl,.nsl,.bool false]))
 (.cons 3
 (.done (.tup [J 0,143,144,87,J 6,90,145,J 0,J 0,.bool false,J 0,J 0,J 0,.flt .f64 0,.nsl,.nsl,.bool false]))
 .nil)))
 (K Q1 [89,J 5] 105
 (.ite 105
 (.callF 56 ft56 [64,65,66,67,68,69,70,71,72,73,74,75,76,77,78,79,80,81,82,83,84,85,86,87,88,89,90,91,92,93,94,95,96,97,98,99,100] 106
 (.cons 2
 (.done (.tup [J 0,143,144,87,J 6,90,J 0,J 0,J 0,.bool false,J 0,J 0,J 0,.flt .f64 0,.nsl,.nsl,.bool false]))
 (.cons 3
 (.done (.tup [J 0,143,144,87,J 6,90,145,J 0,J 0,.bool false,J 0,J 0,J 0,.flt .f64 0,.nsl,.nsl,.bool false]))
 .nil)))
 (.done (.tup [J 0,85,86,87,J 6,90,J 0,J 0,J 0,.bool false,J 0,J 0,J 0,.flt .f64 0,.nsl,.nsl,.bool false]))))))))))))
theorem p27 (q:ST) (who:Int) (s:GS) (mail:SV encR 4) (now:Int) (m:GM) (hm:m.Sm) (hs:s.subs.l.length<=1000) (hl:mail.l.length<=1000) (hr:∀w∈mail.l,w.Sm):CF Tryz.prog 27 ft27 (bk_ q who s mail now++f_ m) (λ_ ws=>ws=wb_ (b_ q who s mail now m)):=by
 refine vc_ (c:=c27) (n:=300) (t:=t27) mo ov rfl (λY _=>vy_ _) (by kernel_rfl) λY hf hg=>?_;unfold t27;have fin:∀{L:List (Nat->List AV->Prop)} {Y:Sy} {hv:List AV} (an:AN),b_ q who s mail now m=an->ab_ Y.v hv=wb_ an->VOK Tryz.prog (QF λ_ ws=>ws=wb_ (b_ q who s mail now m)) L Y (.done (.tup (.int .i64 0::hv))):=λan e h=>VOK_fin (by rw [h];exact yw_ an) (by rw [h,e]);refine vr_ (run_eql ..) rfl (u9_ rfl (λk1=>?_) (λk1=>?_))
 .have k1:m.kind=1:=dT k1;refine a_ (p52 q who s mail now m hm m.id) rfl (wj_ ..) ⟨?_,?_,trivial⟩
  .intro ws h;cases e:e_ m.paths.l with
   |ok ts=>rw [e]at h;obtain ⟨_,rfl⟩:=h;exact fin _ (by unfold b_;rw [if_pos k1,e]) rfl
   |error e'=>rw [e]at h;exact absurd h.1 (by decide)
  .intro ws h;cases e:e_ m.paths.l with
   |ok ts=>rw [e]at h;exact absurd h.1 (by decide)
   |error e'=>rw [e]at h;obtain ⟨_,rfl⟩:=h;exact fin _ (by unfold b_;rw [if_pos k1,e]) rfl
 have k1:¬m.kind=1:=dF k1;refine vr_ (run_eql ..) rfl (u9_ rfl (λk2=>?_) (λk2=>?_))
 .have k2:m.kind=2:=dT k2;refine a_ (p53 q who s mail now m hm hl hr) rfl (ve_ ..) ⟨?_,?_,trivial⟩
  .intro ws h;cases e:n_ q who mail.l m with
   |ok l=>rw [e]at h;obtain ⟨_,rfl⟩:=h;exact fin _ (by unfold b_;rw [if_neg k1,if_pos k2,e]) rfl
   |error e'=>rw [e]at h;exact absurd h.1 (by decide)
  .intro ws h;cases e:n_ q who mail.l m with
   |ok l=>rw [e]at h;exact absurd h.1 (by decide)
   |error e'=>rw [e]at h;obtain ⟨_,rfl⟩:=h;exact fin _ (by unfold b_;rw [if_neg k1,if_pos k2,e]) rfl
 have k2:¬m.kind=2:=dF k2;refine vr_ (run_eql ..) rfl (u9_ rfl (λk3=>?_) (λk3=>?_));have k3:m.kind=3:=dT k3;refine a_ (p54 q who s mail now m m.id) rfl (wj_ ..) ⟨?_,?_,trivial⟩;intro ws h;unfold RPg at h;split at h;rename_i hp;obtain ⟨_,rfl⟩:=h;exact fin _ (by unfold b_;rw [if_neg k1,if_neg k2,if_pos k3,if_pos hp]) rfl;exact absurd h.1 (by decide);intro ws h;unfold RPg at h;split at h;exact absurd h.1 (by decide);rename_i hp;obtain ⟨_,rfl⟩:=h;exact fin _ (by unfold b_;rw [if_neg k1,if_neg k2,if_pos k3,if_neg hp]) rfl;have k3:¬m.kind=3:=dF k3;refine vr_ (run_eql ..) rfl (u9_ rfl (λk4=>?_) (λk4=>?_));have k4:m.kind=4:=dT k4;refine a_ (p55 q who s mail now m hm hs m.id) rfl (wj_ ..) ⟨?_,?_,trivial⟩;intro ws h;unfold RSb at h;split at h;rename_i e;obtain ⟨_,rfl⟩:=h;exact fin _ (by unfold b_;rw [if_neg k1,if_neg k2,if_neg k3,if_pos k4,e]) rfl;exact absurd h.1 (by decide);intro ws h;unfold RSb at h;split at h;exact absurd h.1 (by decide);rename_i e;obtain ⟨_,rfl⟩:=h;exact fin _ (by unfold b_;rw [if_neg k1,if_neg k2,if_neg k3,if_pos k4,e]) rfl;have k4:¬m.kind=4:=dF k4;refine vr_ (run_eql ..) rfl (u9_ rfl (λk5=>?_) (λk5=>?_));have k5:m.kind=5:=dT k5;refine a_ (p56 q who s mail now m hs) rfl (ve_ ..) ⟨?_,?_,trivial⟩;intro ws h;unfold REn at h;split at h;rename_i e;obtain ⟨_,rfl⟩:=h;exact fin _ (by unfold b_;rw [if_neg k1,if_neg k2,if_neg k3,if_neg k4,if_pos k5,e]) rfl;exact absurd h.1 (by decide);intro ws h;unfold REn at h;split at h;exact absurd h.1 (by decide);rename_i e;obtain ⟨_,rfl⟩:=h;exact fin _ (by unfold b_;rw [if_neg k1,if_neg k2,if_neg k3,if_neg k4,if_pos k5,e]) rfl;have k5:¬m.kind=5:=dF k5;exact fin _ (by unfold b_;rw [if_neg k1,if_neg k2,if_neg k3,if_neg k4,if_neg k5]) rfl
def S_ (q:ST):List AV:=[q.a0,q.a1,q.a2,q.im.x,q.a4,q.a5,q.a6,q.a7,q.a8,q.a9,q.a10,.int .i64 q.err,q.a12]
theorem okQ (q:ST):okL (S_ q)=true:=by have h:=q.ok;simp only [okL,Bool.and_eq_true]at h;simp only [S_,okL,okC,q.im.ok A_,h,Bool.and_self]
def E_ (who:Int) (l:List GR):Nat:=l.countP λr=>decide (r.sess=who)
def ep_ (who:Int) (s:GS) (l:List GR):Prop:=s.on=true/\s.inn.l≠[]/\s.out.l.length+E_ who l<6
instance (who:Int) (s:GS) (l:List GR):Decidable (ep_ who s l):=by unfold ep_;infer_instance
def P_ (s:GS) (t:SV f_ 12) (an:AN):GS:={ hN_ s with inn:=t,out:=if an.waits=true then .of s.out.l else .of (s.out.l++[an.a]),subs:=an.subs,num:=an.num }
def c13:VC:=⟨⟨[],[]⟩,[(26,[none])],[(0,[⟨[(37,.slx 0 0 0),(16,.slx 1 0 0),(2,78),(35,87),(9,.ptr 1 0),(15,.ptr 5 0),(12,.ptr 2 0),(36,107)],[(1,[79,80,81,82,83,84,85,86]),(5,[64,65,66,67,68,69,70,71,72,73,74,75,76,77,78,97,98,99,100,101,.ptx 3 102 12 0,.ptx 4 103 15 0,104,105,88]),(2,[.bool false,J 0,.nsl,.bool false,.nsl,.nsl,.nsl,J 0])],6,2,[],[],[(3,102),(4,103)]⟩])],0,true,[(25,wX_),(27,ft27)]⟩
def t13:VT:=
 (.callF 25 wX_ [79,80,81,82,83,84,85,86] 89
 (.cons 8
 (.call 26 [87] 105 [none]
 (K Q7 [84] 106
 (K Qc [87] 107
 (.loop 108 0 [J 0,106]
 (.cons 2
 (K Q2 [108,107] 110
 (.ite 110
 (K Qb [87,108] 111
 (.lt (.load 51) [111] 112 (some 4)
 (K Qw [112,78] 116
 (.ite 116
 (K Q0 [109,J 1] 117
 (K Q0 [108,J 1] 118
 (.again 0 0 [118,117])))
 (K Q0 [108,J 1] 117
 (.again 0 0 [117,109]))))))
 (K Q3 [79] 111
 (.ite 111
 (.done (.tup [.agg [97,98,99,100,101,102,103,104],105,.bool false]))
 (K Q7 [83] 112
 (K Q1 [112,J 0] 113
 (.ite 113
 (.done (.tup [.agg [97,98,99,100,101,102,103,104],105,.bool false]))
 (K Qt [109,J 6] 114
 (.ite 114
 (.done (.tup [.agg [97,98,99,100,101,102,103,104],105,.bool false]))
 (K Qk [101,J 0] 115
 (.lt Z3 [115] 116 (some 12)
 (K Qi [101,J 1] 128
 (.callF 27 ft27 [64,65,66,67,68,69,70,71,72,73,74,75,76,77,78,97,98,99,100,128,102,103,104,105,88,116,117,118,119,120,121,122,123,124,125,126,127] 129
 (.cons 16
 (K Q3 [181] 182
 (.ite 182
 (K Qa [102,.agg [169,170,171,172,173,174,175,176,177,178,179,180]] 183
 (.done (.tup [.agg [97,98,99,100,128,183,166,167],168,.bool true])))
 (.done (.tup [.agg [97,98,99,100,128,102,166,167],168,.bool true]))))
 .nil))))))))))))))
 .nil)))))
 .nil))
theorem p13 (q:ST) (who:Int) (s:GS) (hs:s.Sm) (mail:SV encR 4) (hl:mail.l.length<=1000) (hr:∀w∈mail.l,w.Sm) (now:Int):
  (¬ep_ who s mail.l->ju_ Tryz.prog 13 [VARS,.agg (S_ q),.int .i64 who,.agg (i_ s),mail.x,.int .i64 now] (.tup [.agg (i_ (hN_ s)),ct_ encR 4 mail.l,.bool false]))/\
  (ep_ who s mail.l->∃(t:SV f_ 12) (m:GM),s.inn.l=m::t.l/\ju_ Tryz.prog 13 [VARS,.agg (S_ q),.int .i64 who,.agg (i_ s),mail.x,.int .i64 now]
    (.tup [.agg (i_ (P_ s t (b_ q who s (.of mail.l) now m))),(b_ q who s (.of mail.l) now m).mail.x,.bool true])):=by
 have hx:=mail.ok r_;have ho:=hs.out;have hi:=hs.inn;have walk:∀v:AV,aX_ v=true->(¬ep_ who s mail.l->v=.tup [.agg (i_ (hN_ s)),ct_ encR 4 mail.l,.bool false])->
   (ep_ who s mail.l->∃(t:SV f_ 12) (m:GM),s.inn.l=m::t.l/\(XOp.slc 42 true false).run Tryz.prog [ct_ f_ 12 s.inn.l,.int .i64 1]=some t.x/\v=.tup [.agg (i_ (P_ s t (b_ q who s (.of mail.l) now m))),(b_ q who s (.of mail.l) now m).mail.x,.bool true])->
   ju_ Tryz.prog 13 [VARS,.agg (S_ q),.int .i64 who,.agg (i_ s),mail.x,.int .i64 now] v:=by
  intro v hv h1 h2;refine t3_ (sh:=[none,some 13,none,some 8,none,none]) (ls:=VARS::(S_ q++([.int .i64 who]++(i_ s++[mail.x,.int .i64 now])))) (c:=c13) (n:=300) (t:=t13) mo ov rfl (by rw [aY_,z_];exact kN_.okL_join (okQ q) (kN_.okL_join (a:=[_]) rfl (kN_.okL_join (okS s) (by simp only [okL,okC,hx])))) hv (λY _=>vy_ _) rfl (by kernel_rfl) λY hf hg=>?_;unfold t13;refine a_ (p25 s hs) rfl (okS s) ⟨?_,trivial⟩;rintro ws rfl;refine uz_ (p26 mail hl hr) rfl (by simp only [okL,ub_ r_]) (vr_ (s.out.h.len Tryz.underlying42) rfl (vr_ (mail.h.len Tryz.underlying47) rfl ?_));refine uB_ (ι:=Nat) (λi=>[.int .i64 (i:Int),.int .i64 ((s.out.l.length+E_ who (mail.l.take i):Nat):Int)]) (λi=>i<=mail.l.length) (λi=>mail.l.length-i) 0 (Nat.zero_le _) rfl (λ_ _=>rfl) (λi j _ _ h=>?_) (λi hi'=>?_)
  .have h:=(List.cons.inj h).1;injection h with _ h
   omega
  refine vr_ (run_lss ..) rfl (u9_ rfl (λhc=>?_) (λhc=>?_));have hc:(i:Int)<(mail.l.length:Int):=dT hc;have hc:i<mail.l.length:=(by omega);have hcl:E_ who (mail.l.take i)<=i:=(by unfold E_;exact Nat.le_trans List.countP_le_length (by rw [List.length_take];omega));refine vr_ (iaR mail hc) (kN_ r_ _) (va_ (ldR hc) rfl (r_ _) (vr_ (run_eql ..) rfl (u9_ rfl (λhe=>?_) (λhe=>?_))));have he:mail.l[i].sess=who:=dT he;refine vr_ (d_ (by omega) (by omega)) rfl (vr_ (d_ (by omega) (by omega)) rfl (up_ rfl ⟨i+1,hc,?_,by omega⟩));have e:E_ who (mail.l.take (i+1))=E_ who (mail.l.take i)+1:=(by unfold E_;rw [h_ hc,List.countP_append,List.countP_singleton,if_pos (decide_eq_true he)]);rw [e];rfl;have he:¬mail.l[i].sess=who:=dF he;refine vr_ (d_ (by omega) (by omega)) rfl (up_ rfl ⟨i+1,hc,?_,by omega⟩);have e:E_ who (mail.l.take (i+1))=E_ who (mail.l.take i):=(by unfold E_;rw [h_ hc,List.countP_append,List.countP_singleton,if_neg (by rw [decide_eq_false he];decide),Nat.add_zero]);rw [e];rfl;have hc:¬(i:Int)<(mail.l.length:Int):=dF hc;have ei:i=mail.l.length:=(by omega);subst ei;rw [List.take_length];refine vr_ (vn_ ..) rfl (u9_ rfl (λhon=>?_) (λhon=>?_));have hon:s.on=false:=(by simpa using hon);exact uA_ (h1 λh=>by have h:=h.1;rw [hon]at h;cases h).symm;have hon:s.on=true:=(by simpa using hon);refine vr_ (s.inn.h.len Tryz.underlying42) rfl (vr_ (run_eql ..) rfl (u9_ rfl (λh0=>?_) (λh0=>?_)));have h0:(s.inn.l.length:Int)=0:=dT h0;have h0:s.inn.l=[]:=List.length_eq_zero_iff.1 (by omega);exact uA_ (h1 λh=>h.2.1 h0).symm;have h0:¬(s.inn.l.length:Int)=0:=dF h0;refine vr_ (run_geq ..) rfl (u9_ rfl (λh6=>?_) (λh6=>?_));have h6:(6:Int)<=((s.out.l.length+E_ who mail.l:Nat):Int):=dT h6;exact uA_ (h1 λh=>by have:=h.2.2;omega).symm;have h6:¬(6:Int)<=((s.out.l.length+E_ who mail.l:Nat):Int):=dF h6;obtain ⟨t,m,hin,hslc,rfl⟩:=h2 ⟨hon,λh=>h0 (by rw [h];rfl),by omega⟩;have hlt:0<(SV.of (enc:=f_) (w:=12) s.inn.l).l.length:=(by show 0<s.inn.l.length;omega);have hm0:s.inn.l[0]'(by omega)=m:=(by simp only [hin,List.getElem_cons_zero]);have hmm:m.Sm:=hs.inM m (by rw [hin];exact List.mem_cons_self ..);refine vr_ (iaM (SV.of s.inn.l) (i:=0) hlt) (kN_ v_ _) (va_ (ldM (l:=s.inn.l) (i:=0) (by omega)) rfl (v_ _) (vr_ hslc (t.ok v_) ?_));rw [hm0];refine a_ (p27 q who { hN_ s with inn:=t } (.of mail.l) now m hmm hs.subs hl hr) rfl (ve_ ..) ⟨?_,trivial⟩;rintro ws rfl;have ean:b_ q who { hN_ s with inn:=t } (.of mail.l) now m=b_ q who s (.of mail.l) now m:=rfl;rw [ean];generalize b_ q who s (.of mail.l) now m=an at*;refine vr_ (vn_ ..) rfl (u9_ rfl (λhw=>?_) (λhw=>?_));have hw:an.waits=false:=(by simpa using hw);refine vr_ (t6_ D_ (by decide) (by decide) s.out.l an.a (by omega)) (ub_ v_ _) (uA_ ?_);unfold P_;rw [hw];rfl;have hw:an.waits=true:=(by simpa using hw);refine uA_ ?_;unfold P_;rw [hw];rfl
 have nr:∀(s':GS) (l:AV) (b:Bool),okC l=true->aX_ (.tup [.agg (i_ s'),l,.bool b])=true:=λs' l b h=>by have h1:cC_ (i_ s')=true:=s_ (okS s');have h2:=p1_ h;simp only [aX_,cC_,h1,h2]
 refine ⟨λh=>walk _ (nr _ _ _ (ub_ r_ _)) (λ_=>rfl) (λh'=>absurd h' h),λh=>?_⟩
 obtain ⟨r,hr1,hr2⟩:=SlV.slc10 (P:=Tryz.prog) (ti:=(Tryz.prog.info? 54).get!) Tryz.underlying42 (by kernel_rfl) (by kernel_rfl) D_ (SlV.of (w:=12) s.inn.l) (k:=.i64) (i:=1) (by
  have:=h.2.1;cases e:s.inn.l with
  |nil=>exact absurd e this
  |cons a r=>simp)
 cases e:s.inn.l with
 |nil=>exact absurd e h.2.1
 |cons m rest=>rw [e]at hr1 hr2;refine ⟨⟨rest,r,hr2⟩,m,rfl,walk _ (nr _ _ _ ((b_ q who s (.of mail.l) now m).mail.ok r_)) (λh'=>absurd h h') λ_=>⟨⟨rest,r,hr2⟩,m,e,by rw [e];exact hr1,rfl⟩⟩
def ft11:FT:=⟨1,⟨[(0,.ptr 0 0),(1,.slx 2 0 0)],[pk (.slx 0 0 0) (.slx 1 0 0)],1,3,[],[],[]⟩,[(false,⟨[(0,.slx 0 0 0)],[pk (.sym 64) (.slx 1 0 0)],1,2,[],[],[]⟩)]⟩
def ft9:FT:=⟨1,⟨[(0,.ptr 0 0),(1,.slx 2 0 0)],[pk (.slx 0 0 0) (.slx 1 0 0)],1,3,[],[],[]⟩,[(false,⟨[(0,.agg (hs 0 3))],[pk (.sym 64) (.slx 3 0 0)],1,4,[],[],[]⟩)]⟩
def wW_:FT:=ft11
def ft22:FT:=⟨1,⟨[(0,.ptr 0 0)],[pk (.slx 0 0 0) (.slx 1 0 0)],1,2,[],[],[]⟩,[(false,⟨[(0,.slx 0 0 0)],[pk (.sym 64) (.slx 1 0 0)],1,2,[],[],[]⟩)]⟩
def ft12:FT:=⟨1,⟨[(0,.ptr 0 0),(1,.slx 2 0 0)],[pk (.slx 0 0 0) (.slx 1 0 0)],1,3,[],[],[]⟩,[(false,⟨[(0,.agg (hs 0 12))],[pk (.sym 64) (.slx 12 0 0)],1,13,[],[],[]⟩)]⟩
def ft8:FT:=⟨0,⟨[(0,.slx 0 0 0)],[],0,1,[],[],[]⟩,[(false,⟨[(0,.ptr 0 0)],[pk (.sym 64) (.int .i64 0)],1,0,[],[],[]⟩)]⟩
def Pk (l:List UInt8) (a:AV):Prop:=SlV R_ 1 l a/\l.length<=9223372036854775807
section
variable {l:List UInt8} {a:AV}
theorem wg_ (h:Pk l a):(XOp.len 22).run Tryz.prog [a]=some (.int .i64 (l.length:Int)):=h.1.len Tryz.underlying22
theorem ym_ (h:Pk l a) {i:Nat} (hi:i<l.length) {k:IntKind}:(XOp.iaddr 22).run Tryz.prog [a,.int k (i:Int)]=some (.vptr (bq_ R_ (l.drop i))):=h.1.ia (e:=5) Tryz.underlying22 (ti:=(Tryz.prog.info? 5).get!) (by kernel_rfl) (by kernel_rfl) xy_ hi k
theorem ld5 {i:Nat} (hi:i<l.length):(XOp.load 5).run Tryz.prog [.vptr (bq_ R_ (l.drop i))]=some (.int .u8 (l[i].toNat:Int)):=by rw [List.drop_eq_getElem_cons hi];exact sT_ Tryz.underlying5 rfl _ _
end
theorem uS_ (n:Nat) (h:n<256):(XOp.conv 5 3).run Tryz.prog [.int .u8 (n:Int)]=some (.int .i64 (n:Int)):=by rw [tz_ Tryz.underlying5 Tryz.underlying3,vI_ (by omega) (by omega)]
theorem wI_ (x m:Nat) (h:0<m) (h2:m<9223372036854775808) (t:TypeId) (cx cy:Bool):(XOp.bin .rem t cx cy).run Tryz.prog [.int .i64 (x:Int),.int .i64 (m:Int)]=some (.int .i64 ((x%m:Nat):Int)):=by
 have:(x:Int).tmod (m:Int)=((x%m:Nat):Int):=by rw [Int.tmod_eq_emod_of_nonneg (by omega)];rfl
 show bP_ Tryz.prog .rem t cx cy (.int .i64 (x:Int)) (.int .i64 (m:Int))=_;exact sR_ (by omega) this t cx cy
theorem tP_ {x y z:Int} {t:TypeId} {cx cy:Bool} (h:x-y=z) (h1: -9223372036854775807<=z) (h2:z<=9223372036854775807):(XOp.bin .sub t cx cy).run Tryz.prog [.int .i64 x,.int .i64 y]=some (.int .i64 z):=by rw [run_sub,h,vI_ (by omega) (by omega)]
def RN (l:List UInt8) (m:Nat):Nat->List AV->Prop:=λ_ ws=>∃v n:Nat,ws=[.int .i64 (v:Int),.int .i64 (n:Int)]/\v<m/\n<=l.length
def c11:VC:=⟨⟨[],[]⟩,[],[],1,true,[]⟩
def t11:VT:=
 (K Qx [64] 67
 (K Zj [65,67] 68
 (.ite 68
 (.done (.tup [J 0,J 0,65]))
 (K Q0 [65,J 1] 69
 (K Qp [69,J 1] 70
 (K (.iaddr 22) [64,70] 71
 (K (.load 5) [71] 72
 (K Qh [72] 73
 (K (.bin .rem 3 false false) [73,66] 74
 (.done (.tup [J 0,74,69])))))))))))
theorem p11 {l:List UInt8} {a:AV} {n m:Nat} (h:Pk l a) (hn:n<=l.length) (hm:0<m) (hm2:m<=1000):CF Tryz.prog 11 ft11 [a,.int .i64 (n:Int),.int .i64 (m:Int)] (RN l m):=by
 have hb:=h.2;refine vc_ (c:=c11) (n:=300) (t:=t11) mo ov rfl (λY _=>vy_ _) (by kernel_rfl) λY hf hg=>?_;unfold t11;refine vr_ (wg_ h) rfl (vr_ (run_geq ..) rfl (u9_ rfl (λh1=>VOK_fin rfl ⟨0,n,rfl,hm,hn⟩) (λh1=>?_)));have h1:n<l.length:=by simpa using h1
 refine vr_ (d_ (by omega) (by omega)) rfl (vr_ (tP_ (z:=n) (by omega) (by omega) (by omega)) rfl (vr_ (ym_ h h1) (kN_ oH_ _) (vr_ (ld5 h1) rfl (vr_ (uS_ _ (UInt8.toNat_lt _)) rfl (vr_ (wI_ _ _ hm (by omega) ..) rfl (VOK_fin rfl ⟨l[n].toNat%m,n+1,rfl,Nat.mod_lt _ hm,h1⟩))))))
theorem yy_ {a:AV} (h:okC a=true) {n:Int}:okL [a,.int .i64 n]=true:=by simp only [okL,okC,h]
theorem q_ {a:AV} (h:okC a=true) {n m:Int}:okL [a,.int .i64 n,.int .i64 m]=true:=by simp only [okL,okC,h]
def WT:List Int:=[0,1,2,3,(-1),7,32767,(-32768),2147483647,(-2147483648),100,9223372036854775807,(-9223372036854775808)]
theorem k47:∀(i:Nat) (h:i<13),∃r:Int,ju_ Tryz.prog 47 [.int .i64 2,.int .i64 (WT.getD i 0)] (.int .i64 r)
 |0,_=>⟨0,vg_ mo ov (n:=300) (by kernel_rfl)⟩
 |1,_=>⟨1,vg_ mo ov (n:=300) (by kernel_rfl)⟩
 |2,_=>⟨2,vg_ mo ov (n:=300) (by kernel_rfl)⟩
 |3,_=>⟨3,vg_ mo ov (n:=300) (by kernel_rfl)⟩
 |4,_=>⟨(-1),vg_ mo ov (n:=300) (by kernel_rfl)⟩
 |5,_=>⟨7,vg_ mo ov (n:=300) (by kernel_rfl)⟩
 |6,_=>⟨32767,vg_ mo ov (n:=300) (by kernel_rfl)⟩
 |7,_=>⟨(-32768),vg_ mo ov (n:=300) (by kernel_rfl)⟩
 |8,_=>⟨(-1),vg_ mo ov (n:=300) (by kernel_rfl)⟩
 |9,_=>⟨0,vg_ mo ov (n:=300) (by kernel_rfl)⟩
 |10,_=>⟨100,vg_ mo ov (n:=300) (by kernel_rfl)⟩
 |11,_=>⟨(-1),vg_ mo ov (n:=300) (by kernel_rfl)⟩
 |12,_=>⟨0,vg_ mo ov (n:=300) (by kernel_rfl)⟩
theorem iaW {i:Nat} (h:i<13):(XOp.iaddr 132).run Tryz.prog [dq_ am_ 1 WT,.int .i64 (i:Int)]=some (.vptr (bq_ am_ (WT.drop i))):=(SlV.v WT).ia (e:=2) Tryz.underlying132 (ti:=(Tryz.prog.info? 2).get!) (by kernel_rfl) (by kernel_rfl) wh_ (by simp [WT];omega) .i64
theorem yq_ {i:Nat} (h:i<WT.length):(XOp.load 2).run Tryz.prog [.vptr (bq_ am_ (WT.drop i))]=some (.int .i64 (WT.getD i 0)):=by rw [List.drop_eq_getElem_cons h,List.getD_eq_getElem?_getD,List.getElem?_eq_getElem h];exact sT_ Tryz.underlying2 rfl _ _
def RI (l:List UInt8):Nat->List AV->Prop:=λ_ ws=>∃(v:Int) (n:Nat),ws=[.int .i64 v,.int .i64 (n:Int)]/\n<=l.length
def c23:VC:=⟨⟨[],[]⟩,[(47,[none])],[],1,true,[(11,ft11)]⟩
def t23:VT:=
 (.callF 11 ft11 [64,65,J 13] 67
 (.cons 2
 (K (.iaddr 132) [.vsl 13 1 [J 0,J 1,J 2,J 3,.int .i64 (-1),J 7,J 32767,.int .i64 (-32768),J 2147483647,.int .i64 (-2147483648),J 100,J 9223372036854775807,.int .i64 (-9223372036854775808)],70] 72
 (K (.load 2) [72] 73
 (.call 47 [66,73] 74 [none]
 (.done (.tup [J 0,74,71])))))
 .nil))
theorem p23 {l:List UInt8} {a:AV} {n:Nat} (h:Pk l a) (hn:n<=l.length):CF Tryz.prog 23 wW_ [a,.int .i64 (n:Int),.int .i64 2] (RI l):=by have hA:=h.1.ok oH_;refine vc_ (c:=c23) (n:=300) (t:=t23) mo ov rfl (λY _=>vy_ _) (by kernel_rfl) λY hf hg=>?_;unfold t23;refine a_ (p11 h hn (m:=13) (by decide) (by decide)) rfl (q_ hA) ⟨?_,trivial⟩;rintro ws ⟨v,k,rfl,hv,hk⟩;obtain ⟨r,hr⟩:=k47 v hv;exact vr_ (iaW hv) (kN_ okI _) (vr_ (yq_ (by simp [WT];omega)) rfl (uz_ hr rfl rfl (VOK_fin rfl ⟨r,k,rfl,hk⟩)))
def RT:List (Option Nat):=[some 0,some 9223372036854775808,some 4607182418800017408,some 13830554455654793216,some 4602678819172646912,some 4612811918334230528,some 13838998704956112896,some 9094988921128908188,some 2024,some 9218868437227405312,some 18442240474082181120,none,some 4674736413210574848,some 4891288408196988160,some 4636737291354636288]
def vS_ (o:Option Nat):List AV:=[fv o]
theorem ys_ (o:Option Nat):(vS_ o).length=1:=rfl
theorem okF (o:Option Nat):okL (vS_ o)=true:=by simp only [vS_,okL,vK_]
theorem iaF {i:Nat} (h:i<15):(XOp.iaddr 130).run Tryz.prog [dq_ vS_ 1 RT,.int .i64 (i:Int)]=some (.vptr (bq_ vS_ (RT.drop i))):=(SlV.v RT).ia (e:=36) Tryz.underlying130 (ti:=(Tryz.prog.info? 36).get!) (by kernel_rfl) (by kernel_rfl) ys_ (by simp [RT];omega) .i64
theorem ldF {i:Nat} (h:i<RT.length):(XOp.load 36).run Tryz.prog [.vptr (bq_ vS_ (RT.drop i))]=some (fv (RT.getD i none)):=by rw [List.drop_eq_getElem_cons h,List.getD_eq_getElem?_getD,List.getElem?_eq_getElem h];exact sT_ Tryz.underlying36 rfl _ _
def RF (l:List UInt8):Nat->List AV->Prop:=λ_ ws=>∃(v:Option Nat) (n:Nat),ws=[fv v,.int .i64 (n:Int)]/\n<=l.length
def c22:VC:=⟨⟨[],[]⟩,[],[],1,true,[(11,ft11)]⟩
def t22:VT:=
 (.callF 11 ft11 [64,65,J 15] 66
 (.cons 2
 (K (.iaddr 130) [.vsl 15 1 [.flt .f64 0,.flt .f64 9223372036854775808,.flt .f64 4607182418800017408,.flt .f64 13830554455654793216,.flt .f64 4602678819172646912,.flt .f64 4612811918334230528,.flt .f64 13838998704956112896,.flt .f64 9094988921128908188,.flt .f64 2024,.flt .f64 9218868437227405312,.flt .f64 18442240474082181120,.nan .f64,.flt .f64 4674736413210574848,.flt .f64 4891288408196988160,.flt .f64 4636737291354636288],69] 71
 (K (.load 36) [71] 72
 (.done (.tup [J 0,72,70]))))
 .nil))
theorem p22 {l:List UInt8} {a:AV} {n:Nat} (h:Pk l a) (hn:n<=l.length):CF Tryz.prog 22 ft22 [a,.int .i64 (n:Int)] (RF l):=by have hA:=h.1.ok oH_;refine vc_ (c:=c22) (n:=300) (t:=t22) mo ov rfl (λY _=>vy_ _) (by kernel_rfl) λY hf hg=>?_;unfold t22;refine a_ (p11 h hn (m:=15) (by decide) (by decide)) rfl (q_ hA) ⟨?_,trivial⟩;rintro ws ⟨v,k,rfl,hv,hk⟩;exact vr_ (iaF hv) (kN_ okF _) (vr_ (ldF (by simp [RT];omega)) (vK_ _) (VOK_fin (by show okL [fv _,.int .i64 (k:Int)]=true;simp only [okL,okC,vK_]) ⟨_,k,rfl,hk⟩))
def RV (l:List UInt8):Nat->List AV->Prop:=λ_ ws=>∃(v:FV) (n:Nat),ws=k_ v++[.int .i64 (n:Int)]/\n<=l.length
theorem yA_ (v:FV) (n:Int):okL (k_ v++[.int .i64 n])=true:=kN_.okL_join (A_ v) rfl
def c9:VC:=⟨⟨[],[]⟩,[],[],1,true,[(11,ft11),(23,wW_),(22,ft22)]⟩
def t9:VT:=
 (K Q1 [66,J 1] 67
 (.ite 67
 (.callF 11 ft11 [64,65,J 2] 68
 (.cons 2
 (.done (.tup [J 0,J 1,71,.flt .f64 0,72]))
 .nil))
 (K Q1 [66,J 5] 68
 (.ite 68
 (.callF 22 ft22 [64,65] 69
 (.cons 2
 (.done (.tup [J 0,J 5,J 0,71,72]))
 .nil))
 (.callF 23 wW_ [64,65,66] 69
 (.cons 2
 (.done (.tup [J 0,66,72,.flt .f64 0,73]))
 .nil))))))
theorem p9 {l:List UInt8} {a:AV} {n:Nat} (h:Pk l a) (hn:n<=l.length) {k:Int} (hk:k=1\/k=2\/k=5):CF Tryz.prog 9 ft9 [a,.int .i64 (n:Int),.int .i64 k] (RV l):=by
 have hA:=h.1.ok oH_;refine vc_ (c:=c9) (n:=300) (t:=t9) mo ov rfl (λY _=>vy_ _) (by kernel_rfl) λY hf hg=>?_;unfold t9;refine vr_ (run_eql ..) rfl (u9_ rfl (λk1=>?_) (λk1=>?_));refine a_ (p11 h hn (m:=2) (by decide) (by decide)) rfl (q_ hA) ⟨?_,trivial⟩;rintro ws ⟨v,k,rfl,hv,hk⟩;exact VOK_fin rfl ⟨⟨1,v,some 0⟩,k,rfl,hk⟩;have k1:¬k=1:=dF k1;refine vr_ (run_eql ..) rfl (u9_ rfl (λk5=>?_) (λk5=>?_));refine a_ (p22 h hn) rfl (yy_ hA) ⟨?_,trivial⟩;rintro ws ⟨v,k,rfl,hk⟩;exact VOK_fin (yA_ ⟨5,0,v⟩ k) ⟨⟨5,0,v⟩,k,rfl,hk⟩;have k5:¬k=5:=dF k5;obtain rfl:k=2:=by omega
 refine a_ (p23 h hn) rfl (q_ hA) ⟨?_,trivial⟩;rintro ws ⟨v,k,rfl,hk⟩;exact VOK_fin rfl ⟨⟨2,v,some 0⟩,k,rfl,hk⟩
def c8:VC:=⟨⟨[],[]⟩,[],[],0,true,[]⟩
def t8:VT:=Dn []
theorem p8 (a:AV) (h:okC a=true):CF Tryz.prog 8 ft8 [a] (λ_ ws=>ws=[]):=by refine vc_ (c:=c8) (n:=300) (t:=t8) mo ov rfl (λY _=>vy_ _) (by kernel_rfl) λY hf hg=>?_;unfold t8;exact VOK_fin rfl rfl
def c12:VC:=⟨⟨[],[]⟩,[(24,[none])],[(20015,[⟨[],[],0,0,[],[],[]⟩]),(1,[⟨[(7,.slx 0 0 0),(6,.ptr 2 0),(0,.ptr 0 0),(5,67),(4,.ptr 1 0)],[(2,[73,66,J 0,J 0,J 0,.bool false,J 0,J 0,J 0,.flt .f64 0,.slx 3 1 1,.nsl]),(0,[64,.slx 2 0 0]),(1,[J 0,J 0,J 0,J 0,J 0,.bool false,J 0,J 0,J 0,.flt .f64 0,.nsl,.nsl])],4,3,[⟨3,1,1,2,(some 10)⟩],[],[]⟩]),(3,[⟨[(8,.slx 0 0 0),(6,.ptr 2 0),(0,.ptr 0 0),(4,.ptr 1 0)],[(2,[73,66,J 0,J 0,J 0,.bool false,J 0,J 0,J 0,.flt .f64 0,.slx 3 1 1,.slx 4 3 2]),(0,[64,.slx 3 0 0]),(1,[J 0,J 0,J 0,J 0,J 0,.bool false,J 0,J 0,J 0,.flt .f64 0,.nsl,.nsl])],5,4,[⟨3,1,1,2,(some 10)⟩,⟨4,3,2,2,(some 11)⟩],[],[]⟩])],1,true,[(11,ft11),(9,ft9)]⟩
def yV_:VT:=
 (K Q6 [93] 94
 (K Qf [86,J 10] 95
 (.callF 11 ft11 [64,92,J 2] 96
 (.cons 2
 (K Q1 [99,J 0] 101
 (.ite 101
 (.callF 9 ft9 [64,100,J 2] 102
 (.cons 4
 (.done (.tup [J 0,73,66,J 0,91,J 0,.bool false,95,105,106,107,.vsl 1 1 [94],.nsl,108]))
 .nil))
 (.done (.tup [J 0,73,66,J 0,91,J 0,.bool false,95,J 0,J 0,.flt .f64 0,.vsl 1 1 [94],.nsl,100]))))
 .nil))))
def yW_:VT:=
 (K Qf [86,J 10] 94
 (K Q6 [93] 95
 (.callF 11 ft11 [64,92,J 2] 96
 (.cons 2
 (K Q1 [99,J 0] 101
 (.ite 101
 (.callF 9 ft9 [64,100,J 2] 102
 (.cons 4
 (.done (.tup [J 0,73,66,J 0,91,J 0,.bool false,94,105,106,107,.vsl 1 1 [95],.nsl,108]))
 .nil))
 (.done (.tup [J 0,73,66,J 0,91,J 0,.bool false,94,J 0,J 0,.flt .f64 0,.vsl 1 1 [95],.nsl,100]))))
 .nil))))
def yX_:VT:=
 (K Qf [86,J 10] 93
 (K Qg [67,81] 94
 (K Q6 [94] 95
 (.callF 11 ft11 [64,92,J 2] 96
 (.cons 2
 (K Q1 [99,J 0] 101
 (.ite 101
 (.callF 9 ft9 [64,100,J 2] 102
 (.cons 4
 (.done (.tup [J 0,73,66,J 0,91,J 0,.bool false,93,105,106,107,.vsl 1 1 [95],.nsl,108]))
 .nil))
 (.done (.tup [J 0,73,66,J 0,91,J 0,.bool false,93,J 0,J 0,.flt .f64 0,.vsl 1 1 [95],.nsl,100]))))
 .nil)))))
def yY_:VT:=
 (K Q6 [89] 90
 (.callF 11 ft11 [64,87,J 4] 91
 (.cons 2
 (.callF 11 ft11 [64,95,J 2] 96
 (.cons 2
 (K Q1 [99,J 0] 101
 (.ite 101
 (.callF 9 ft9 [64,100,J 2] 102
 (.cons 4
 (.done (.tup [J 0,73,66,J 0,94,J 0,.bool false,88,105,106,107,.vsl 1 1 [90],.nsl,108]))
 .nil))
 (.done (.tup [J 0,73,66,J 0,94,J 0,.bool false,88,J 0,J 0,.flt .f64 0,.vsl 1 1 [90],.nsl,100]))))
 .nil))
 .nil)))
def yZ_:VT:=
 (.callF 11 ft11 [64,87,J 4] 90
 (.cons 2
 (K Q6 [89] 95
 (.callF 11 ft11 [64,94,J 2] 96
 (.cons 2
 (K Q1 [99,J 0] 101
 (.ite 101
 (.callF 9 ft9 [64,100,J 2] 102
 (.cons 4
 (.done (.tup [J 0,73,66,J 0,93,J 0,.bool false,88,105,106,107,.vsl 1 1 [95],.nsl,108]))
 .nil))
 (.done (.tup [J 0,73,66,J 0,93,J 0,.bool false,88,J 0,J 0,.flt .f64 0,.vsl 1 1 [95],.nsl,100]))))
 .nil)))
 .nil))
def y0_:VT:=
 (.callF 11 ft11 [64,87,J 4] 89
 (.cons 2
 (K Qg [67,81] 94
 (K Q6 [94] 95
 (.callF 11 ft11 [64,93,J 2] 96
 (.cons 2
 (K Q1 [99,J 0] 101
 (.ite 101
 (.callF 9 ft9 [64,100,J 2] 102
 (.cons 4
 (.done (.tup [J 0,73,66,J 0,92,J 0,.bool false,88,105,106,107,.vsl 1 1 [95],.nsl,108]))
 .nil))
 (.done (.tup [J 0,73,66,J 0,92,J 0,.bool false,88,J 0,J 0,.flt .f64 0,.vsl 1 1 [95],.nsl,100]))))
 .nil))))
 .nil))
def y1_:VT:=
 (K Qf [86,J 10] 88
 (.both (.lt (.iaddr 52) [67,81] 89 none
 (.both yY_ yZ_)) y0_))
def y2_:VT:=Cf 11 ft11 [64,87,J 4] 88 2<|.both (Li (.iaddr 52) [67,81] 93<|.both yV_ yW_) yX_
def y3_:VT:=
 (K Q6 [88] 94
 (K Qf [86,J 10] 95
 (.callF 11 ft11 [64,93,J 2] 96
 (.cons 2
 (K Q1 [99,J 0] 101
 (.ite 101
 (.callF 9 ft9 [64,100,J 2] 102
 (.cons 4
 (.done (.tup [J 0,73,66,J 0,92,J 0,.bool false,95,105,106,107,.vsl 1 1 [94],.nsl,108]))
 .nil))
 (.done (.tup [J 0,73,66,J 0,92,J 0,.bool false,95,J 0,J 0,.flt .f64 0,.vsl 1 1 [94],.nsl,100]))))
 .nil))))
def y4_:VT:=
 (K Qf [86,J 10] 94
 (K Q6 [88] 95
 (.callF 11 ft11 [64,93,J 2] 96
 (.cons 2
 (K Q1 [99,J 0] 101
 (.ite 101
 (.callF 9 ft9 [64,100,J 2] 102
 (.cons 4
 (.done (.tup [J 0,73,66,J 0,92,J 0,.bool false,94,105,106,107,.vsl 1 1 [95],.nsl,108]))
 .nil))
 (.done (.tup [J 0,73,66,J 0,92,J 0,.bool false,94,J 0,J 0,.flt .f64 0,.vsl 1 1 [95],.nsl,100]))))
 .nil))))
def y5_:VT:=
 (K Q6 [88] 90
 (.callF 11 ft11 [64,87,J 4] 91
 (.cons 2
 (.callF 11 ft11 [64,95,J 2] 96
 (.cons 2
 (K Q1 [99,J 0] 101
 (.ite 101
 (.callF 9 ft9 [64,100,J 2] 102
 (.cons 4
 (.done (.tup [J 0,73,66,J 0,94,J 0,.bool false,89,105,106,107,.vsl 1 1 [90],.nsl,108]))
 .nil))
 (.done (.tup [J 0,73,66,J 0,94,J 0,.bool false,89,J 0,J 0,.flt .f64 0,.vsl 1 1 [90],.nsl,100]))))
 .nil))
 .nil)))
def y6_:VT:=
 (.callF 11 ft11 [64,87,J 4] 90
 (.cons 2
 (K Q6 [88] 95
 (.callF 11 ft11 [64,94,J 2] 96
 (.cons 2
 (K Q1 [99,J 0] 101
 (.ite 101
 (.callF 9 ft9 [64,100,J 2] 102
 (.cons 4
 (.done (.tup [J 0,73,66,J 0,93,J 0,.bool false,89,105,106,107,.vsl 1 1 [95],.nsl,108]))
 .nil))
 (.done (.tup [J 0,73,66,J 0,93,J 0,.bool false,89,J 0,J 0,.flt .f64 0,.vsl 1 1 [95],.nsl,100]))))
 .nil)))
 .nil))
def y7_:VT:=
 (K Qf [86,J 10] 89
 (.both y5_ y6_))
def y8_:VT:=Cf 11 ft11 [64,87,J 4] 89 2<|.both y3_ y4_
def y9_:VT:=
 (K Qf [86,J 10] 90
 (.callF 11 ft11 [64,87,J 4] 91
 (.cons 2
 (.callF 11 ft11 [64,95,J 2] 96
 (.cons 2
 (K Q1 [99,J 0] 101
 (.ite 101
 (.callF 9 ft9 [64,100,J 2] 102
 (.cons 4
 (.done (.tup [J 0,73,66,J 0,94,J 0,.bool false,90,105,106,107,.vsl 1 1 [89],.nsl,108]))
 .nil))
 (.done (.tup [J 0,73,66,J 0,94,J 0,.bool false,90,J 0,J 0,.flt .f64 0,.vsl 1 1 [89],.nsl,100]))))
 .nil))
 .nil)))
def za_:VT:=
 (.callF 11 ft11 [64,87,J 4] 90
 (.cons 2
 (K Qf [86,J 10] 95
 (.callF 11 ft11 [64,94,J 2] 96
 (.cons 2
 (K Q1 [99,J 0] 101
 (.ite 101
 (.callF 9 ft9 [64,100,J 2] 102
 (.cons 4
 (.done (.tup [J 0,73,66,J 0,93,J 0,.bool false,95,105,106,107,.vsl 1 1 [89],.nsl,108]))
 .nil))
 (.done (.tup [J 0,73,66,J 0,93,J 0,.bool false,95,J 0,J 0,.flt .f64 0,.vsl 1 1 [89],.nsl,100]))))
 .nil)))
 .nil))
def zb_:VT:=
 (K Qg [67,81] 88
 (.both (.lt (.load 9) [88] 89 none
 (.both y9_ za_)) (.both y7_ y8_)))
def zc_:VT:=
 (K Q6 [83] 94
 (K Qf [87,J 10] 95
 (.callF 11 ft11 [64,93,J 2] 96
 (.cons 2
 (K Q1 [99,J 0] 101
 (.ite 101
 (.callF 9 ft9 [64,100,J 2] 102
 (.cons 4
 (.done (.tup [J 0,73,66,J 0,92,J 0,.bool false,95,105,106,107,.vsl 1 1 [94],.nsl,108]))
 .nil))
 (.done (.tup [J 0,73,66,J 0,92,J 0,.bool false,95,J 0,J 0,.flt .f64 0,.vsl 1 1 [94],.nsl,100]))))
 .nil))))
def zd_:VT:=
 (K Qf [87,J 10] 94
 (K Q6 [83] 95
 (.callF 11 ft11 [64,93,J 2] 96
 (.cons 2
 (K Q1 [99,J 0] 101
 (.ite 101
 (.callF 9 ft9 [64,100,J 2] 102
 (.cons 4
 (.done (.tup [J 0,73,66,J 0,92,J 0,.bool false,94,105,106,107,.vsl 1 1 [95],.nsl,108]))
 .nil))
 (.done (.tup [J 0,73,66,J 0,92,J 0,.bool false,94,J 0,J 0,.flt .f64 0,.vsl 1 1 [95],.nsl,100]))))
 .nil))))
def ze_:VT:=
 (K Q6 [83] 90
 (.callF 11 ft11 [64,88,J 4] 91
 (.cons 2
 (.callF 11 ft11 [64,95,J 2] 96
 (.cons 2
 (K Q1 [99,J 0] 101
 (.ite 101
 (.callF 9 ft9 [64,100,J 2] 102
 (.cons 4
 (.done (.tup [J 0,73,66,J 0,94,J 0,.bool false,89,105,106,107,.vsl 1 1 [90],.nsl,108]))
 .nil))
 (.done (.tup [J 0,73,66,J 0,94,J 0,.bool false,89,J 0,J 0,.flt .f64 0,.vsl 1 1 [90],.nsl,100]))))
 .nil))
 .nil)))
def zf_:VT:=
 (.callF 11 ft11 [64,88,J 4] 90
 (.cons 2
 (K Q6 [83] 95
 (.callF 11 ft11 [64,94,J 2] 96
 (.cons 2
 (K Q1 [99,J 0] 101
 (.ite 101
 (.callF 9 ft9 [64,100,J 2] 102
 (.cons 4
 (.done (.tup [J 0,73,66,J 0,93,J 0,.bool false,89,105,106,107,.vsl 1 1 [95],.nsl,108]))
 .nil))
 (.done (.tup [J 0,73,66,J 0,93,J 0,.bool false,89,J 0,J 0,.flt .f64 0,.vsl 1 1 [95],.nsl,100]))))
 .nil)))
 .nil))
def zg_:VT:=
 (K Qf [87,J 10] 89
 (.both ze_ zf_))
def zh_:VT:=Cf 11 ft11 [64,88,J 4] 89 2<|.both zc_ zd_
def zi_:VT:=
 (K Qf [87,J 10] 90
 (.callF 11 ft11 [64,88,J 4] 91
 (.cons 2
 (.callF 11 ft11 [64,95,J 2] 96
 (.cons 2
 (K Q1 [99,J 0] 101
 (.ite 101
 (.callF 9 ft9 [64,100,J 2] 102
 (.cons 4
 (.done (.tup [J 0,73,66,J 0,94,J 0,.bool false,90,105,106,107,.vsl 1 1 [89],.nsl,108]))
 .nil))
 (.done (.tup [J 0,73,66,J 0,94,J 0,.bool false,90,J 0,J 0,.flt .f64 0,.vsl 1 1 [89],.nsl,100]))))
 .nil))
 .nil)))
def zj_:VT:=
 (.callF 11 ft11 [64,88,J 4] 90
 (.cons 2
 (K Qf [87,J 10] 95
 (.callF 11 ft11 [64,94,J 2] 96
 (.cons 2
 (K Q1 [99,J 0] 101
 (.ite 101
 (.callF 9 ft9 [64,100,J 2] 102
 (.cons 4
 (.done (.tup [J 0,73,66,J 0,93,J 0,.bool false,95,105,106,107,.vsl 1 1 [89],.nsl,108]))
 .nil))
 (.done (.tup [J 0,73,66,J 0,93,J 0,.bool false,95,J 0,J 0,.flt .f64 0,.vsl 1 1 [89],.nsl,100]))))
 .nil)))
 .nil))
def zk_:VT:=
 (K Qf [88,J 10] 90
 (.callF 11 ft11 [64,89,J 4] 91
 (.cons 2
 (.callF 11 ft11 [64,95,J 2] 96
 (.cons 2
 (K Q1 [99,J 0] 101
 (.ite 101
 (.callF 9 ft9 [64,100,J 2] 102
 (.cons 4
 (.done (.tup [J 0,73,66,J 0,94,J 0,.bool false,90,105,106,107,.vsl 1 1 [84],.nsl,108]))
 .nil))
 (.done (.tup [J 0,73,66,J 0,94,J 0,.bool false,90,J 0,J 0,.flt .f64 0,.vsl 1 1 [84],.nsl,100]))))
 .nil))
 .nil)))
def xO_:VT:=
 (.callF 11 ft11 [64,89,J 4] 90
 (.cons 2
 (K Qf [88,J 10] 95
 (.callF 11 ft11 [64,94,J 2] 96
 (.cons 2
 (K Q1 [99,J 0] 101
 (.ite 101
 (.callF 9 ft9 [64,100,J 2] 102
 (.cons 4
 (.done (.tup [J 0,73,66,J 0,93,J 0,.bool false,95,105,106,107,.vsl 1 1 [84],.nsl,108]))
 .nil))
 (.done (.tup [J 0,73,66,J 0,93,J 0,.bool false,95,J 0,J 0,.flt .f64 0,.vsl 1 1 [84],.nsl,100]))))
 .nil)))
 .nil))
def xP_:VT:=
 (K Q6 [83] 84
 (.callF 11 ft11 [64,82,J 4] 85
 (.cons 2
 (.both zk_ xO_)
 .nil)))
def xQ_:VT:=Cf 11 ft11 [64,82,J 4] 84 2<|.both (Li (.load 9) [83] 89<|.both zi_ zj_)<|.both zg_ zh_
def xR_:VT:=Cf 11 ft11 [64,82,J 4] 83 2<|.both zb_<|.both y1_ y2_
def t12:VT:=
 (.call 24 [] 67 [none]
 (.callF 11 ft11 [64,65,J 5] 68
 (.cons 2
 (K Z5 [J 1,71] 73
 (K Q1 [73,J 1] 74
 (.ite 74
 (.callF 11 ft11 [64,72,J 3] 75
 (.cons 2
 (K Q0 [78,J 1] 80
 (.loop 81 0 [80,.nsl,79]
 (.cons 3
 (K Q9 [81,J 0] 84
 (.ite 84
 (.callF 11 ft11 [64,83,J 10] 85
 (.cons 2
 (K Qg [67,88] 90
 (K Q6 [90] 91
 (K Z1 [82,.agg [91]] 92
 (K Qp [81,J 1] 93
 (.again 0 0 [93,92,89])))))
 .nil))
 (.done (.tup [J 0,73,66,J 0,J 0,J 0,.bool false,J 0,J 0,J 0,.flt .f64 0,82,.nsl,83]))))
 .nil)))
 .nil))
 (K Q1 [73,J 2] 75
 (.ite 75
 (.callF 11 ft11 [64,72,J 2] 76
 (.cons 2
 (K Q0 [79,J 1] 81
 (.loop 82 0 [81,.nsl,.nsl,80]
 (.cons 4
 (K Q9 [82,J 0] 86
 (.ite 86
 (.callF 11 ft11 [64,85,J 6] 87
 (.cons 2
 (K Qg [.vsl 6 1 [.str [120],.str [107,91,48,93],.str [114],.str [120],.str [107,91,49,93],.str [111]],90] 92
 (K Q6 [92] 93
 (K Z1 [83,.agg [93]] 94
 (.callF 11 ft11 [64,91,J 4] 95
 (.cons 2
 (K Q1 [90,J 2] 100
 (.ite 100
 (.callF 9 ft9 [64,99,J 5] 101
 (.cons 4
 (K Qq [84,.agg [104,105,106]] 108
 (K Qp [82,J 1] 109
 (.again 0 0 [109,94,108,107])))
 .nil))
 (K Qq [84,.agg [J 2,98,.flt .f64 0]] 101
 (K Qp [82,J 1] 102
 (.again 0 0 [102,94,101,99])))))
 .nil)))))
 .nil))
 (.done (.tup [J 0,73,66,J 0,J 0,J 0,.bool false,J 0,J 0,J 0,.flt .f64 0,83,84,85]))))
 .nil)))
 .nil))
 (K Q1 [73,J 3] 76
 (.ite 76
 (.callF 11 ft11 [64,72,J 12] 77
 (.cons 2
 (.done (.tup [J 0,73,66,J 0,80,J 0,.bool false,J 0,J 0,J 0,.flt .f64 0,.nsl,.nsl,81]))
 .nil))
 (K Q1 [73,J 4] 77
 (.ite 77
 (.callF 11 ft11 [64,72,J 9] 78
 (.cons 2
 (.both (.lt (.iaddr 52) [67,81] 83 none
 (.both xP_ xQ_)) xR_)
 .nil))
 (.callF 11 ft11 [64,72,J 4] 78
 (.cons 2
 (.done (.tup [J 0,73,66,J 0,81,J 0,.bool false,J 0,J 0,J 0,.flt .f64 0,.nsl,.nsl,82]))
 .nil)))))))))))
 .nil)))
theorem v7_ {P:Program} {Q:AV->Prop} {L:List (Nat->List AV->Prop)} {Y:Sy} {a b:VT} (h1:VOK P Q L Y a) (h2:VOK P Q L Y b):VOK P Q L Y (.both a b):=⟨h1,h2⟩
def PL:List (List UInt8):=[[110],[120],[114],[107,91,48,93],[107,91,49,93],[111],[97],[98],[122,122],[107,91,57,93]]
def PT:SV I_ 1:=.v PL
def PW:SV I_ 1:=.v [[120],[107,91,48,93],[114],[120],[107,91,49,93],[111]]
theorem k24:ju_ Tryz.prog 24 [] PT.x:=vg_ mo ov (n:=300) (by kernel_rfl)
def Ask (id:Int) (m:GM):Prop:=m.id=id/\m.Sm/\1<=m.kind/\m.kind<=5
def xg_ (l:List UInt8) (id:Int):Nat->List AV->Prop:=λ_ ws=>∃(m:GM) (n:Nat),ws=f_ m++[.int .i64 (n:Int)]/\Ask id m/\n<=l.length
theorem vU_ {P:Program} {L:List (Nat->List AV->Prop)} {Y:Sy} {l:List UInt8} {id:Int} {m:GM} {n:Nat} {hv:List AV} (h:ab_ Y.v hv=f_ m++[.int .i64 (n:Int)]) (h1:Ask id m) (hn:n<=l.length):VOK P (QF (xg_ l id)) L Y (.done (.tup (.int .i64 0::hv))):=
 VOK_fin (by rw [h];exact kN_.okL_join (v_ m) rfl) ⟨m,n,h,h1,hn⟩
theorem sm1 (kind id err n seq:Int) (lost:Bool) (every:Int) (band:FV) (p:List UInt8):GM.Sm ⟨kind,id,err,n,seq,lost,every,band,.v [p],.nil⟩:=⟨by show 1<=1000;decide,Nat.zero_le _⟩
theorem p12 {l:List UInt8} {a:AV} {n:Nat} (hp:Pk l a) (hn:n<=l.length) (id:Int):CF Tryz.prog 12 ft12 [a,.int .i64 (n:Int),.int .i64 id] (xg_ l id):=by
 have hA:=hp.1.ok oH_;have hb:=hp.2;refine vc_ (c:=c12) (n:=300) (t:=t12) mo ov rfl (λY _=>vy_ _) (by kernel_rfl) λY hf hg=>?_;unfold t12;refine uz_ k24 rfl (by simp only [okL,PT.ok okP]) ?_
 (refine a_ (p11 hp hn (m:=5) (by decide) (by decide)) rfl (q_ hA) ⟨?_,trivial⟩;rintro ws ⟨v,n,rfl,hv,hn⟩)
 refine vr_ (d_ (by omega) (by omega)) rfl ?_;have hv5:=hv;refine vr_ (run_eql ..) rfl (u9_ rfl (λk1=>?_) (λk1=>?_))
 ·(refine a_ (p11 hp hn (m:=3) (by decide) (by decide)) rfl (q_ hA) ⟨?_,trivial⟩;rintro ws ⟨v,n,rfl,hv,hn⟩)
  refine vr_ (d_ (by omega) (by omega)) rfl ?_;refine uB_ (ι:=Nat×List (List UInt8)×Nat) (λx=>[.int .i64 (x.1:Int),ct_ I_ 1 x.2.1,.int .i64 (x.2.2:Int)]) (λx=>x.1+x.2.1.length<=3/\x.2.2<=l.length) (λx=>x.1) (v+1,[],n) ⟨by show v+1+0<=3;omega,hn⟩ rfl (λ_ _=>by simp only [okL,okC,ub_ okP]) (λx y _ _ h=>?_) (λx hx=>?_)
  .have h:=(List.cons.inj h).1;injection h with _ h
   omega
  obtain ⟨i,ps,n⟩:=x;obtain ⟨hi,hn⟩:=hx;simp only at hi hn⊢;refine vr_ (run_gtr ..) rfl (u9_ rfl (λhc=>?_) (λhc=>?_))
  .have hc:(0:Int)<(i:Int):=dT hc
   (refine a_ (p11 hp hn (m:=10) (by decide) (by decide)) rfl (q_ hA) ⟨?_,trivial⟩;rintro ws ⟨v,n,rfl,hv,hn⟩)
   refine vr_ (iaP PT hv) (kN_ okP _) (vr_ (ldP hv) rfl (vr_ (t6_ vZ_ (by decide) (by decide) ps _ (by omega)) (ub_ okP _) (vr_ (tP_ (z:=((i-1:Nat):Int)) (by omega) (by omega) (by omega)) rfl (up_ rfl ⟨(i-1,ps++[_],n),⟨?_,hn⟩,rfl,by show i-1<i;omega⟩))));show i-1+(ps++[_]).length<=3;rw [List.length_append,List.length_singleton];omega
  exact vU_ (m:=⟨_,id,0,0,0,false,0,FV.z,.of ps,.nil⟩) rfl ⟨rfl,⟨by show ps.length<=1000;omega,Nat.zero_le _⟩,by dsimp only;omega,by dsimp only;omega⟩ hn
 refine vr_ (run_eql ..) rfl (u9_ rfl (λk2=>?_) (λk2=>?_))
 ·(refine a_ (p11 hp hn (m:=2) (by decide) (by decide)) rfl (q_ hA) ⟨?_,trivial⟩;rintro ws ⟨v,n,rfl,hv,hn⟩)
  refine vr_ (d_ (by omega) (by omega)) rfl ?_;refine uB_ (ι:=Nat×List (List UInt8)×List FV×Nat) (λx=>[.int .i64 (x.1:Int),ct_ I_ 1 x.2.1,ct_ k_ 3 x.2.2.1,.int .i64 (x.2.2.2:Int)]) (λx=>x.1+x.2.1.length<=2/\x.1+x.2.2.1.length<=2/\x.2.2.2<=l.length) (λx=>x.1) (v+1,[],[],n) ⟨by show v+1+0<=2;omega,by show v+1+0<=2;omega,hn⟩ rfl (λ_ _=>by simp only [okL,okC,ub_ okP,ub_ A_]) (λx y _ _ h=>?_) (λx hx=>?_)
  .have h:=(List.cons.inj h).1;injection h with _ h
   omega
  obtain ⟨i,ps,vs,n⟩:=x;obtain ⟨hi,hi2,hn⟩:=hx;simp only at hi hi2 hn⊢;refine vr_ (run_gtr ..) rfl (u9_ rfl (λhc=>?_) (λhc=>?_))
  .have hc:(0:Int)<(i:Int):=dT hc
   (refine a_ (p11 hp hn (m:=6) (by decide) (by decide)) rfl (q_ hA) ⟨?_,trivial⟩;rintro ws ⟨v,n,rfl,hv,hn⟩)
   have hv6:=hv;refine vr_ (iaP PW hv) (kN_ okP _) (vr_ (ldP hv) rfl (vr_ (t6_ vZ_ (by decide) (by decide) ps _ (by omega)) (ub_ okP _) ?_))
   (refine a_ (p11 hp hn (m:=4) (by decide) (by decide)) rfl (q_ hA) ⟨?_,trivial⟩;rintro ws ⟨v,n,rfl,hv,hn⟩)
   have again:∀(w:FV) (n:Nat),n<=l.length->∀p:List UInt8,∃i':Nat×List (List UInt8)×List FV×Nat,(i'.1+i'.2.1.length<=2/\i'.1+i'.2.2.1.length<=2/\i'.2.2.2<=l.length)/\[AV.int .i64 ((i-1:Nat):Int),ct_ I_ 1 (ps++[p]),ct_ k_ 3 (vs++[w]),.int .i64 (n:Int)]=[AV.int .i64 (i'.1:Int),ct_ I_ 1 i'.2.1,ct_ k_ 3 i'.2.2.1,.int .i64 (i'.2.2.2:Int)]/\i'.1<i:=λw n hn p=>⟨(i-1,ps++[p],vs++[w],n),⟨by simp only [List.length_append,List.length_singleton];omega,by simp only [List.length_append,List.length_singleton];omega,hn⟩,rfl,by show i-1<i;omega⟩;refine vr_ (run_eql ..) rfl (u9_ rfl (λ_=>?_) (λ_=>?_));refine a_ (p9 hp hn (.inr (.inr rfl))) rfl (q_ hA) ⟨?_,trivial⟩;rintro ws ⟨w,n,rfl,hn⟩;exact vr_ (t6_ rl_ (by decide) (by decide) vs w (by omega)) (ub_ A_ _) (vr_ (tP_ (z:=((i-1:Nat):Int)) (by omega) (by omega) (by omega)) rfl (up_ rfl (again w n hn _)));exact vr_ (t6_ rl_ (by decide) (by decide) vs ⟨2,v,some 0⟩ (by omega)) (ub_ A_ _) (vr_ (tP_ (z:=((i-1:Nat):Int)) (by omega) (by omega) (by omega)) rfl (up_ rfl (again ⟨2,v,some 0⟩ n hn _)))
  exact vU_ (m:=⟨_,id,0,0,0,false,0,FV.z,.of ps,.of vs⟩) rfl ⟨rfl,⟨by show ps.length<=1000;omega,by show vs.length<=1000;omega⟩,by dsimp only;omega,by dsimp only;omega⟩ hn
 refine vr_ (run_eql ..) rfl (u9_ rfl (λk3=>?_) (λk3=>?_))
 ·(refine a_ (p11 hp hn (m:=12) (by decide) (by decide)) rfl (q_ hA) ⟨?_,trivial⟩;rintro ws ⟨v,n,rfl,hv,hn⟩)
  exact vU_ (m:=⟨_,id,0,_,0,false,0,FV.z,.nil,.nil⟩) rfl ⟨rfl,⟨Nat.zero_le _,Nat.zero_le _⟩,by dsimp only;omega,by dsimp only;omega⟩ hn
 refine vr_ (run_eql ..) rfl (u9_ rfl (λk4=>?_) (λk4=>?_))
 ·(refine a_ (p11 hp hn (m:=9) (by decide) (by decide)) rfl (q_ hA) ⟨?_,trivial⟩;rintro ws ⟨v,n,rfl,hv,hn⟩)
  repeat' (first
            |refine v7_ ?_ ?_
            |refine vr_ (iaP PT (by show _<10;omega)) (kN_ okP _) ?_
            |refine vr_ (ldP (by show _<10;omega)) rfl ?_
            |refine vr_ (run_mul ..) rfl ?_
            |(refine a_ (p11 hp hn (m:=4) (by decide) (by decide)) rfl (q_ hA) ⟨?_,trivial⟩;rintro ws ⟨v,n,rfl,hv,hn⟩)
            |(refine a_ (p11 hp hn (m:=2) (by decide) (by decide)) rfl (q_ hA) ⟨?_,trivial⟩;rintro ws ⟨v,n,rfl,hv,hn⟩)
            |refine vr_ (run_eql ..) rfl (u9_ rfl (λ_=>?_) (λ_=>?_))
            |(refine a_ (p9 hp hn (.inr (.inl rfl))) rfl (q_ hA) ⟨?_,trivial⟩;rintro ws ⟨w,n,rfl,hn⟩;exact vU_ (m:=⟨_,id,0,_,0,false,_,w,.v [_],.nil⟩) rfl ⟨rfl,sm1 _ _ _ _ _ _ _ _ _,by dsimp only;omega,by dsimp only;omega⟩ hn)
            |exact vU_ (m:=⟨_,id,0,_,0,false,_,FV.z,.v [_],.nil⟩) rfl ⟨rfl,sm1 _ _ _ _ _ _ _ _ _,by dsimp only;omega,by dsimp only;omega⟩ hn)
 ·(refine a_ (p11 hp hn (m:=4) (by decide) (by decide)) rfl (q_ hA) ⟨?_,trivial⟩;rintro ws ⟨v,n,rfl,hv,hn⟩)
  exact vU_ (m:=⟨_,id,0,_,0,false,0,FV.z,.nil,.nil⟩) rfl ⟨rfl,⟨Nat.zero_le _,Nat.zero_le _⟩,by dsimp only;omega,by dsimp only;omega⟩ hn
namespace Beg
abbrev G (l:List (FuncId×List AV×AV)):Gl:=glT gl0 nr0 l
theorem o0: @kC_ (G []) Tryz.prog:=vE_ gl0 nr0 Tryz.prog
def a0:List AV:=[]
def v0:AV:=.str [105,110,32,97,32,58,32,105,110,116,59,32,105,110,32,98,32,58,32,98,111,111,108,59,32,111,117,116,32,111,32,58,32,105,110,116,32,58,61,32,49,44,32,57,59,32,118,97,114,32,110,32,58,32,105,110,116,59,32,118,97,114,32,120,32,58,32,105,110,116,59,32,118,97,114,32,114,32,58,32,114,101,97,108,59,32,118,97,114,32,107,32,58,32,105,110,116,91,51,93,59,32,110,32,58,61,32,110,32,43,32,49,59,32,111,32,58,61,32,120,32,43,32,97,59,32,105,102,32,98,32,116,104,101,110,32,107,91,120,93,32,58,61,32,97,59,32,101,110,100,32,114,32,58,61,32,114,32,43,32,48,46,53,59]
theorem e0: @uQ_ (G []) Tryz.prog 3000 18 a0 v0=true:=by kernel_rfl
def l1:List (FuncId×List AV×AV):=(18,a0,v0)::[]
theorem o1: @kC_ (G l1) Tryz.prog:=vj_ o0 (@vg_ (G []) Tryz.prog mo o0 3000 18 a0 v0 e0)
def a1:List AV:=[.str [105,110,32,97,32,58,32,105,110,116,59,32,105,110,32,98,32,58,32,98,111,111,108,59,32,111,117,116,32,111,32,58,32,105,110,116,32,58,61,32,49,44,32,57,59,32,118,97,114,32,110,32,58,32,105,110,116,59,32,118,97,114,32,120,32,58,32,105,110,116,59,32,118,97,114,32,114,32,58,32,114,101,97,108,59,32,118,97,114,32,107,32,58,32,105,110,116,91,51,93,59,32,110,32,58,61,32,110,32,43,32,49,59,32,111,32,58,61,32,120,32,43,32,97,59,32,105,102,32,98,32,116,104,101,110,32,107,91,120,93,32,58,61,32,97,59,32,101,110,100,32,114,32,58,61,32,114,32,43,32,48,46,53,59]]
def v1:AV:=.tup [.vsl 71 5 [.int .i64 1,.str [105,110],.int .i64 0,.flt .f64 0,.int .i64 0,.int .i64 1,.str [97],.int .i64 0,.flt .f64 0,.int .i64 3,.int .i64 5,.str [58],.int .i64 0,.flt .f64 0,.int .i64 5,.int .i64 1,.str [105,110,116],.int .i64 0,.flt .f64 0,.int .i64 7,.int .i64 5,.str [59],.int .i64 0,.flt .f64 0,.int .i64 10,.int .i64 1,.str [105,110],.int .i64 0,.flt .f64 0,.int .i64 12,.int .i64 1,.str [98],.int .i64 0,.flt .f64 0,.int .i64 15,.int .i64 5,.str [58],.int .i64 0,.flt .f64 0,.int .i64 17,.int .i64 1,.str [98,111,111,108],.int .i64 0,.flt .f64 0,.int .i64 19,.int .i64 5,.str [59],.int .i64 0,.flt .f64 0,.int .i64 23,.int .i64 1,.str [111,117,116],.int .i64 0,.flt .f64 0,.int .i64 25,.int .i64 1,.str [111],.int .i64 0,.flt .f64 0,.int .i64 29,.int .i64 5,.str [58],.int .i64 0,.flt .f64 0,.int .i64 31,.int .i64 1,.str [105,110,116],.int .i64 0,.flt .f64 0,.int .i64 33,.int .i64 5,.str [58,61],.int .i64 0,.flt .f64 0,.int .i64 37,.int .i64 2,.str [],.int .i64 1,.flt .f64 0,.int .i64 40,.int .i64 5,.str [44],.int .i64 0,.flt .f64 0,.int .i64 41,.int .i64 2,.str [],.int .i64 9,.flt .f64 0,.int .i64 43,.int .i64 5,.str [59],.int .i64 0,.flt .f64 0,.int .i64 44,.int .i64 1,.str [118,97,114],.int .i64 0,.flt .f64 0,.int .i64 46,.int .i64 1,.str [110],.int .i64 0,.flt .f64 0,.int .i64 50,.int .i64 5,.str [58],.int .i64 0,.flt .f64 0,.int .i64 52,.int .i64 1,.str [105,110,116],.int .i64 0,.flt .f64 0,.int .i64 54,.int .i64 5,.str [59],.int .i64 0,.flt .f64 0,.int .i64 57,.int .i64 1,.str [118,97,114],.int .i64 0,.flt .f64 0,.int .i64 59,.int .i64 1,.str [120],.int .i64 0,.flt .f64 0,.int .i64 63,.int .i64 5,.str [58],.int .i64 0,.flt .f64 0,.int .i64 65,.int .i64 1,.str [105,110,116],.int .i64 0,.flt .f64 0,.int .i64 67,.int .i64 5,.str [59],.int .i64 0,.flt .f64 0,.int .i64 70,.int .i64 1,.str [118,97,114],.int .i64 0,.flt .f64 0,.int .i64 72,.int .i64 1,.str [114],.int .i64 0,.flt .f64 0,.int .i64 76,.int .i64 5,.str [58],.int .i64 0,.flt .f64 0,.int .i64 78,.int .i64 1,.str [114,101,97,108],.int .i64 0,.flt .f64 0,.int .i64 80,.int .i64 5,.str [59],.int .i64 0,.flt .f64 0,.int .i64 84,.int .i64 1,.str [118,97,114],.int .i64 0,.flt .f64 0,.int .i64 86,.int .i64 1,.str [107],.int .i64 0,.flt .f64 0,.int .i64 90,.int .i64 5,.str [58],.int .i64 0,.flt .f64 0,.int .i64 92,.int .i64 1,.str [105,110,116],.int .i64 0,.flt .f64 0,.int .i64 94,.int .i64 5,.str [91],.int .i64 0,.flt .f64 0,.int .i64 97,.int .i64 2,.str [],.int .i64 3,.flt .f64 0,.int .i64 98,.int .i64 5,.str [93],.int .i64 0,.flt .f64 0,.int .i64 99,.int .i64 5,.str [59],.int .i64 0,.flt .f64 0,.int .i64 100,.int .i64 1,.str [110],.int .i64 0,.flt .f64 0,.int .i64 102,.int .i64 5,.str [58,61],.int .i64 0,.flt .f64 0,.int .i64 104,.int .i64 1,.str [110],.int .i64 0,.flt .f64 0,.int .i64 107,.int .i64 5,.str [43],.int .i64 0,.flt .f64 0,.int .i64 109,.int .i64 2,.str [],.int .i64 1,.flt .f64 0,.int .i64 111,.int .i64 5,.str [59],.int .i64 0,.flt .f64 0,.int .i64 112,.int .i64 1,.str [111],.int .i64 0,.flt .f64 0,.int .i64 114,.int .i64 5,.str [58,61],.int .i64 0,.flt .f64 0,.int .i64 116,.int .i64 1,.str [120],.int .i64 0,.flt .f64 0,.int .i64 119,.int .i64 5,.str [43],.int .i64 0,.flt .f64 0,.int .i64 121,.int .i64 1,.str [97],.int .i64 0,.flt .f64 0,.int .i64 123,.int .i64 5,.str [59],.int .i64 0,.flt .f64 0,.int .i64 124,.int .i64 1,.str [105,102],.int .i64 0,.flt .f64 0,.int .i64 126,.int .i64 1,.str [98],.int .i64 0,.flt .f64 0,.int .i64 129,.int .i64 1,.str [116,104,101,110],.int .i64 0,.flt .f64 0,.int .i64 131,.int .i64 1,.str [107],.int .i64 0,.flt .f64 0,.int .i64 136,.int .i64 5,.str [91],.int .i64 0,.flt .f64 0,.int .i64 137,.int .i64 1,.str [120],.int .i64 0,.flt .f64 0,.int .i64 138,.int .i64 5,.str [93],.int .i64 0,.flt .f64 0,.int .i64 139,.int .i64 5,.str [58,61],.int .i64 0,.flt .f64 0,.int .i64 141,.int .i64 1,.str [97],.int .i64 0,.flt .f64 0,.int .i64 144,.int .i64 5,.str [59],.int .i64 0,.flt .f64 0,.int .i64 145,.int .i64 1,.str [101,110,100],.int .i64 0,.flt .f64 0,.int .i64 147,.int .i64 1,.str [114],.int .i64 0,.flt .f64 0,.int .i64 151,.int .i64 5,.str [58,61],.int .i64 0,.flt .f64 0,.int .i64 153,.int .i64 1,.str [114],.int .i64 0,.flt .f64 0,.int .i64 156,.int .i64 5,.str [43],.int .i64 0,.flt .f64 0,.int .i64 158,.int .i64 3,.str [],.int .i64 0,.flt .f64 4602678819172646912,.int .i64 160,.int .i64 5,.str [59],.int .i64 0,.flt .f64 0,.int .i64 163],.int .i64 0,.bool true]
theorem e1: @uQ_ (G l1) Tryz.prog 3000 36 a1 v1=true:=by kernel_rfl
def l2:List (FuncId×List AV×AV):=(36,a1,v1)::l1
theorem o2: @kC_ (G l2) Tryz.prog:=vj_ o1 (@vg_ (G l1) Tryz.prog mo o1 3000 36 a1 v1 e1)
def a2:List AV:=[.str [105,110,32,97,32,58,32,105,110,116,59,32,105,110,32,98,32,58,32,98,111,111,108,59,32,111,117,116,32,111,32,58,32,105,110,116,32,58,61,32,49,44,32,57,59,32,118,97,114,32,110,32,58,32,105,110,116,59,32,118,97,114,32,120,32,58,32,105,110,116,59,32,118,97,114,32,114,32,58,32,114,101,97,108,59,32,118,97,114,32,107,32,58,32,105,110,116,91,51,93,59,32,110,32,58,61,32,110,32,43,32,49,59,32,111,32,58,61,32,120,32,43,32,97,59,32,105,102,32,98,32,116,104,101,110,32,107,91,120,93,32,58,61,32,97,59,32,101,110,100,32,114,32,58,61,32,114,32,43,32,48,46,53,59]]
def v2:AV:=.tup [.agg [.vsl 7 10 [.str [97],.int .i64 1,.int .i64 2,.int .i64 0,.int .i64 2,.int .i64 0,.flt .f64 0,.int .i64 0,.int .i64 0,.flt .f64 0,.str [98],.int .i64 1,.int .i64 1,.int .i64 0,.int .i64 1,.int .i64 0,.flt .f64 0,.int .i64 0,.int .i64 0,.flt .f64 0,.str [111],.int .i64 2,.int .i64 2,.int .i64 0,.int .i64 2,.int .i64 1,.flt .f64 0,.int .i64 2,.int .i64 9,.flt .f64 0,.str [110],.int .i64 3,.int .i64 2,.int .i64 0,.int .i64 2,.int .i64 0,.flt .f64 0,.int .i64 0,.int .i64 0,.flt .f64 0,.str [120],.int .i64 3,.int .i64 2,.int .i64 0,.int .i64 2,.int .i64 0,.flt .f64 0,.int .i64 0,.int .i64 0,.flt .f64 0,.str [114],.int .i64 3,.int .i64 5,.int .i64 0,.int .i64 5,.int .i64 0,.flt .f64 0,.int .i64 0,.int .i64 0,.flt .f64 0,.str [107],.int .i64 3,.int .i64 2,.int .i64 3,.int .i64 2,.int .i64 0,.flt .f64 0,.int .i64 0,.int .i64 0,.flt .f64 0],.vsl 4 27 [.int .i64 1,.int .i64 2,.int .i64 0,.str [110],.str [],.int .i64 0,.int .i64 0,.int .i64 0,.int .i64 0,.flt .f64 0,.nsl,.int .i64 4,.int .i64 0,.str [],.str [],.int .i64 0,.int .i64 0,.int .i64 0,.int .i64 0,.flt .f64 0,.vsl 2 10 [.int .i64 2,.int .i64 0,.str [110],.str [],.int .i64 0,.int .i64 0,.int .i64 0,.int .i64 0,.flt .f64 0,.nsl,.int .i64 1,.int .i64 0,.str [],.str [],.int .i64 0,.int .i64 0,.int .i64 3,.int .i64 1,.flt .f64 0,.nsl],.nsl,.nsl,.str [],.int .i64 0,.int .i64 0,.nsl,.int .i64 1,.int .i64 2,.int .i64 0,.str [111],.str [],.int .i64 0,.int .i64 0,.int .i64 0,.int .i64 0,.flt .f64 0,.nsl,.int .i64 4,.int .i64 0,.str [],.str [],.int .i64 0,.int .i64 0,.int .i64 0,.int .i64 0,.flt .f64 0,.vsl 2 10 [.int .i64 2,.int .i64 0,.str [120],.str [],.int .i64 0,.int .i64 0,.int .i64 0,.int .i64 0,.flt .f64 0,.nsl,.int .i64 2,.int .i64 0,.str [97],.str [],.int .i64 0,.int .i64 0,.int .i64 0,.int .i64 0,.flt .f64 0,.nsl],.nsl,.nsl,.str [],.int .i64 0,.int .i64 0,.nsl,.int .i64 2,.int .i64 0,.int .i64 0,.str [],.str [],.int .i64 0,.int .i64 0,.int .i64 0,.int .i64 0,.flt .f64 0,.nsl,.int .i64 2,.int .i64 0,.str [98],.str [],.int .i64 0,.int .i64 0,.int .i64 0,.int .i64 0,.flt .f64 0,.nsl,.vsl 1 27 [.int .i64 1,.int .i64 3,.int .i64 0,.str [107],.str [],.int .i64 0,.int .i64 0,.int .i64 0,.int .i64 0,.flt .f64 0,.vsl 1 10 [.int .i64 2,.int .i64 0,.str [120],.str [],.int .i64 0,.int .i64 0,.int .i64 0,.int .i64 0,.flt .f64 0,.nsl],.int .i64 2,.int .i64 0,.str [97],.str [],.int .i64 0,.int .i64 0,.int .i64 0,.int .i64 0,.flt .f64 0,.nsl,.nsl,.nsl,.str [],.int .i64 0,.int .i64 0,.nsl],.nsl,.str [],.int .i64 0,.int .i64 0,.nsl,.int .i64 1,.int .i64 2,.int .i64 0,.str [114],.str [],.int .i64 0,.int .i64 0,.int .i64 0,.int .i64 0,.flt .f64 0,.nsl,.int .i64 4,.int .i64 0,.str [],.str [],.int .i64 0,.int .i64 0,.int .i64 0,.int .i64 0,.flt .f64 0,.vsl 2 10 [.int .i64 2,.int .i64 0,.str [114],.str [],.int .i64 0,.int .i64 0,.int .i64 0,.int .i64 0,.flt .f64 0,.nsl,.int .i64 1,.int .i64 0,.str [],.str [],.int .i64 0,.int .i64 0,.int .i64 5,.int .i64 0,.flt .f64 4602678819172646912,.nsl],.nsl,.nsl,.str [],.int .i64 0,.int .i64 0,.nsl]],.int .i64 0,.bool true]
theorem e2: @uQ_ (G l2) Tryz.prog 3000 17 a2 v2=true:=by kernel_rfl
def l3:List (FuncId×List AV×AV):=(17,a2,v2)::l2
theorem o3: @kC_ (G l3) Tryz.prog:=vj_ o2 (@vg_ (G l2) Tryz.prog mo o2 3000 17 a2 v2 e2)
def a3:List AV:=[.agg [.vsl 7 10 [.str [97],.int .i64 1,.int .i64 2,.int .i64 0,.int .i64 2,.int .i64 0,.flt .f64 0,.int .i64 0,.int .i64 0,.flt .f64 0,.str [98],.int .i64 1,.int .i64 1,.int .i64 0,.int .i64 1,.int .i64 0,.flt .f64 0,.int .i64 0,.int .i64 0,.flt .f64 0,.str [111],.int .i64 2,.int .i64 2,.int .i64 0,.int .i64 2,.int .i64 1,.flt .f64 0,.int .i64 2,.int .i64 9,.flt .f64 0,.str [110],.int .i64 3,.int .i64 2,.int .i64 0,.int .i64 2,.int .i64 0,.flt .f64 0,.int .i64 0,.int .i64 0,.flt .f64 0,.str [120],.int .i64 3,.int .i64 2,.int .i64 0,.int .i64 2,.int .i64 0,.flt .f64 0,.int .i64 0,.int .i64 0,.flt .f64 0,.str [114],.int .i64 3,.int .i64 5,.int .i64 0,.int .i64 5,.int .i64 0,.flt .f64 0,.int .i64 0,.int .i64 0,.flt .f64 0,.str [107],.int .i64 3,.int .i64 2,.int .i64 3,.int .i64 2,.int .i64 0,.flt .f64 0,.int .i64 0,.int .i64 0,.flt .f64 0],.vsl 4 27 [.int .i64 1,.int .i64 2,.int .i64 0,.str [110],.str [],.int .i64 0,.int .i64 0,.int .i64 0,.int .i64 0,.flt .f64 0,.nsl,.int .i64 4,.int .i64 0,.str [],.str [],.int .i64 0,.int .i64 0,.int .i64 0,.int .i64 0,.flt .f64 0,.vsl 2 10 [.int .i64 2,.int .i64 0,.str [110],.str [],.int .i64 0,.int .i64 0,.int .i64 0,.int .i64 0,.flt .f64 0,.nsl,.int .i64 1,.int .i64 0,.str [],.str [],.int .i64 0,.int .i64 0,.int .i64 3,.int .i64 1,.flt .f64 0,.nsl],.nsl,.nsl,.str [],.int .i64 0,.int .i64 0,.nsl,.int .i64 1,.int .i64 2,.int .i64 0,.str [111],.str [],.int .i64 0,.int .i64 0,.int .i64 0,.int .i64 0,.flt .f64 0,.nsl,.int .i64 4,.int .i64 0,.str [],.str [],.int .i64 0,.int .i64 0,.int .i64 0,.int .i64 0,.flt .f64 0,.vsl 2 10 [.int .i64 2,.int .i64 0,.str [120],.str [],.int .i64 0,.int .i64 0,.int .i64 0,.int .i64 0,.flt .f64 0,.nsl,.int .i64 2,.int .i64 0,.str [97],.str [],.int .i64 0,.int .i64 0,.int .i64 0,.int .i64 0,.flt .f64 0,.nsl],.nsl,.nsl,.str [],.int .i64 0,.int .i64 0,.nsl,.int .i64 2,.int .i64 0,.int .i64 0,.str [],.str [],.int .i64 0,.int .i64 0,.int .i64 0,.int .i64 0,.flt .f64 0,.nsl,.int .i64 2,.int .i64 0,.str [98],.str [],.int .i64 0,.int .i64 0,.int .i64 0,.int .i64 0,.flt .f64 0,.nsl,.vsl 1 27 [.int .i64 1,.int .i64 3,.int .i64 0,.str [107],.str [],.int .i64 0,.int .i64 0,.int .i64 0,.int .i64 0,.flt .f64 0,.vsl 1 10 [.int .i64 2,.int .i64 0,.str [120],.str [],.int .i64 0,.int .i64 0,.int .i64 0,.int .i64 0,.flt .f64 0,.nsl],.int .i64 2,.int .i64 0,.str [97],.str [],.int .i64 0,.int .i64 0,.int .i64 0,.int .i64 0,.flt .f64 0,.nsl,.nsl,.nsl,.str [],.int .i64 0,.int .i64 0,.nsl],.nsl,.str [],.int .i64 0,.int .i64 0,.nsl,.int .i64 1,.int .i64 2,.int .i64 0,.str [114],.str [],.int .i64 0,.int .i64 0,.int .i64 0,.int .i64 0,.flt .f64 0,.nsl,.int .i64 4,.int .i64 0,.str [],.str [],.int .i64 0,.int .i64 0,.int .i64 0,.int .i64 0,.flt .f64 0,.vsl 2 10 [.int .i64 2,.int .i64 0,.str [114],.str [],.int .i64 0,.int .i64 0,.int .i64 0,.int .i64 0,.flt .f64 0,.nsl,.int .i64 1,.int .i64 0,.str [],.str [],.int .i64 0,.int .i64 0,.int .i64 5,.int .i64 0,.flt .f64 4602678819172646912,.nsl],.nsl,.nsl,.str [],.int .i64 0,.int .i64 0,.nsl]]]
def v3:AV:=.tup [.agg [.vsl 7 10 [.str [97],.int .i64 1,.int .i64 2,.int .i64 0,.int .i64 2,.int .i64 0,.flt .f64 0,.int .i64 0,.int .i64 0,.flt .f64 0,.str [98],.int .i64 1,.int .i64 1,.int .i64 0,.int .i64 1,.int .i64 0,.flt .f64 0,.int .i64 0,.int .i64 0,.flt .f64 0,.str [111],.int .i64 2,.int .i64 2,.int .i64 0,.int .i64 2,.int .i64 1,.flt .f64 0,.int .i64 2,.int .i64 9,.flt .f64 0,.str [110],.int .i64 3,.int .i64 2,.int .i64 0,.int .i64 2,.int .i64 0,.flt .f64 0,.int .i64 0,.int .i64 0,.flt .f64 0,.str [120],.int .i64 3,.int .i64 2,.int .i64 0,.int .i64 2,.int .i64 0,.flt .f64 0,.int .i64 0,.int .i64 0,.flt .f64 0,.str [114],.int .i64 3,.int .i64 5,.int .i64 0,.int .i64 5,.int .i64 0,.flt .f64 0,.int .i64 0,.int .i64 0,.flt .f64 0,.str [107],.int .i64 3,.int .i64 2,.int .i64 3,.int .i64 2,.int .i64 0,.flt .f64 0,.int .i64 0,.int .i64 0,.flt .f64 0],.vsl 4 27 [.int .i64 1,.int .i64 2,.int .i64 2,.str [110],.str [],.int .i64 3,.int .i64 0,.int .i64 0,.int .i64 0,.flt .f64 0,.nsl,.int .i64 4,.int .i64 2,.str [],.str [],.int .i64 0,.int .i64 0,.int .i64 0,.int .i64 0,.flt .f64 0,.vsl 2 10 [.int .i64 2,.int .i64 2,.str [110],.str [],.int .i64 3,.int .i64 0,.int .i64 0,.int .i64 0,.flt .f64 0,.nsl,.int .i64 1,.int .i64 2,.str [],.str [],.int .i64 0,.int .i64 0,.int .i64 2,.int .i64 1,.flt .f64 0,.nsl],.nsl,.nsl,.str [],.int .i64 0,.int .i64 0,.nsl,.int .i64 1,.int .i64 2,.int .i64 2,.str [111],.str [],.int .i64 2,.int .i64 0,.int .i64 0,.int .i64 0,.flt .f64 0,.nsl,.int .i64 4,.int .i64 2,.str [],.str [],.int .i64 0,.int .i64 0,.int .i64 0,.int .i64 0,.flt .f64 0,.vsl 2 10 [.int .i64 2,.int .i64 2,.str [120],.str [],.int .i64 4,.int .i64 0,.int .i64 0,.int .i64 0,.flt .f64 0,.nsl,.int .i64 2,.int .i64 2,.str [97],.str [],.int .i64 0,.int .i64 0,.int .i64 0,.int .i64 0,.flt .f64 0,.nsl],.nsl,.nsl,.str [],.int .i64 0,.int .i64 0,.nsl,.int .i64 2,.int .i64 0,.int .i64 0,.str [],.str [],.int .i64 0,.int .i64 0,.int .i64 0,.int .i64 0,.flt .f64 0,.nsl,.int .i64 2,.int .i64 1,.str [98],.str [],.int .i64 1,.int .i64 0,.int .i64 0,.int .i64 0,.flt .f64 0,.nsl,.vsl 1 27 [.int .i64 1,.int .i64 3,.int .i64 2,.str [107],.str [],.int .i64 6,.int .i64 3,.int .i64 0,.int .i64 0,.flt .f64 0,.vsl 1 10 [.int .i64 2,.int .i64 2,.str [120],.str [],.int .i64 4,.int .i64 0,.int .i64 0,.int .i64 0,.flt .f64 0,.nsl],.int .i64 2,.int .i64 2,.str [97],.str [],.int .i64 0,.int .i64 0,.int .i64 0,.int .i64 0,.flt .f64 0,.nsl,.nsl,.nsl,.str [],.int .i64 0,.int .i64 0,.nsl],.nsl,.str [],.int .i64 0,.int .i64 0,.nsl,.int .i64 1,.int .i64 2,.int .i64 5,.str [114],.str [],.int .i64 5,.int .i64 0,.int .i64 0,.int .i64 0,.flt .f64 0,.nsl,.int .i64 4,.int .i64 5,.str [],.str [],.int .i64 0,.int .i64 0,.int .i64 0,.int .i64 0,.flt .f64 0,.vsl 2 10 [.int .i64 2,.int .i64 5,.str [114],.str [],.int .i64 5,.int .i64 0,.int .i64 0,.int .i64 0,.flt .f64 0,.nsl,.int .i64 1,.int .i64 5,.str [],.str [],.int .i64 0,.int .i64 0,.int .i64 5,.int .i64 0,.flt .f64 4602678819172646912,.nsl],.nsl,.nsl,.str [],.int .i64 0,.int .i64 0,.nsl]],.int .i64 0]
theorem e3: @uQ_ (G l3) Tryz.prog 3000 19 a3 v3=true:=by kernel_rfl
def l4:List (FuncId×List AV×AV):=(19,a3,v3)::l3
theorem o4: @kC_ (G l4) Tryz.prog:=vj_ o3 (@vg_ (G l3) Tryz.prog mo o3 3000 19 a3 v3 e3)
def a4:List AV:=[.agg [.vsl 7 10 [.str [97],.int .i64 1,.int .i64 2,.int .i64 0,.int .i64 2,.int .i64 0,.flt .f64 0,.int .i64 0,.int .i64 0,.flt .f64 0,.str [98],.int .i64 1,.int .i64 1,.int .i64 0,.int .i64 1,.int .i64 0,.flt .f64 0,.int .i64 0,.int .i64 0,.flt .f64 0,.str [111],.int .i64 2,.int .i64 2,.int .i64 0,.int .i64 2,.int .i64 1,.flt .f64 0,.int .i64 2,.int .i64 9,.flt .f64 0,.str [110],.int .i64 3,.int .i64 2,.int .i64 0,.int .i64 2,.int .i64 0,.flt .f64 0,.int .i64 0,.int .i64 0,.flt .f64 0,.str [120],.int .i64 3,.int .i64 2,.int .i64 0,.int .i64 2,.int .i64 0,.flt .f64 0,.int .i64 0,.int .i64 0,.flt .f64 0,.str [114],.int .i64 3,.int .i64 5,.int .i64 0,.int .i64 5,.int .i64 0,.flt .f64 0,.int .i64 0,.int .i64 0,.flt .f64 0,.str [107],.int .i64 3,.int .i64 2,.int .i64 3,.int .i64 2,.int .i64 0,.flt .f64 0,.int .i64 0,.int .i64 0,.flt .f64 0],.vsl 4 27 [.int .i64 1,.int .i64 2,.int .i64 2,.str [110],.str [],.int .i64 3,.int .i64 0,.int .i64 0,.int .i64 0,.flt .f64 0,.nsl,.int .i64 4,.int .i64 2,.str [],.str [],.int .i64 0,.int .i64 0,.int .i64 0,.int .i64 0,.flt .f64 0,.vsl 2 10 [.int .i64 2,.int .i64 2,.str [110],.str [],.int .i64 3,.int .i64 0,.int .i64 0,.int .i64 0,.flt .f64 0,.nsl,.int .i64 1,.int .i64 2,.str [],.str [],.int .i64 0,.int .i64 0,.int .i64 2,.int .i64 1,.flt .f64 0,.nsl],.nsl,.nsl,.str [],.int .i64 0,.int .i64 0,.nsl,.int .i64 1,.int .i64 2,.int .i64 2,.str [111],.str [],.int .i64 2,.int .i64 0,.int .i64 0,.int .i64 0,.flt .f64 0,.nsl,.int .i64 4,.int .i64 2,.str [],.str [],.int .i64 0,.int .i64 0,.int .i64 0,.int .i64 0,.flt .f64 0,.vsl 2 10 [.int .i64 2,.int .i64 2,.str [120],.str [],.int .i64 4,.int .i64 0,.int .i64 0,.int .i64 0,.flt .f64 0,.nsl,.int .i64 2,.int .i64 2,.str [97],.str [],.int .i64 0,.int .i64 0,.int .i64 0,.int .i64 0,.flt .f64 0,.nsl],.nsl,.nsl,.str [],.int .i64 0,.int .i64 0,.nsl,.int .i64 2,.int .i64 0,.int .i64 0,.str [],.str [],.int .i64 0,.int .i64 0,.int .i64 0,.int .i64 0,.flt .f64 0,.nsl,.int .i64 2,.int .i64 1,.str [98],.str [],.int .i64 1,.int .i64 0,.int .i64 0,.int .i64 0,.flt .f64 0,.nsl,.vsl 1 27 [.int .i64 1,.int .i64 3,.int .i64 2,.str [107],.str [],.int .i64 6,.int .i64 3,.int .i64 0,.int .i64 0,.flt .f64 0,.vsl 1 10 [.int .i64 2,.int .i64 2,.str [120],.str [],.int .i64 4,.int .i64 0,.int .i64 0,.int .i64 0,.flt .f64 0,.nsl],.int .i64 2,.int .i64 2,.str [97],.str [],.int .i64 0,.int .i64 0,.int .i64 0,.int .i64 0,.flt .f64 0,.nsl,.nsl,.nsl,.str [],.int .i64 0,.int .i64 0,.nsl],.nsl,.str [],.int .i64 0,.int .i64 0,.nsl,.int .i64 1,.int .i64 2,.int .i64 5,.str [114],.str [],.int .i64 5,.int .i64 0,.int .i64 0,.int .i64 0,.flt .f64 0,.nsl,.int .i64 4,.int .i64 5,.str [],.str [],.int .i64 0,.int .i64 0,.int .i64 0,.int .i64 0,.flt .f64 0,.vsl 2 10 [.int .i64 2,.int .i64 5,.str [114],.str [],.int .i64 5,.int .i64 0,.int .i64 0,.int .i64 0,.flt .f64 0,.nsl,.int .i64 1,.int .i64 5,.str [],.str [],.int .i64 0,.int .i64 0,.int .i64 5,.int .i64 0,.flt .f64 4602678819172646912,.nsl],.nsl,.nsl,.str [],.int .i64 0,.int .i64 0,.nsl]]]
def v4:AV:=.tup [.vsl 18 7 [.int .i64 2,.int .i64 0,.int .i64 3,.int .i64 0,.int .i64 0,.int .i64 0,.flt .f64 0,.int .i64 1,.int .i64 2,.int .i64 0,.int .i64 0,.int .i64 2,.int .i64 1,.flt .f64 0,.int .i64 4,.int .i64 2,.int .i64 0,.int .i64 0,.int .i64 0,.int .i64 0,.flt .f64 0,.int .i64 18,.int .i64 0,.int .i64 3,.int .i64 0,.int .i64 0,.int .i64 0,.flt .f64 0,.int .i64 2,.int .i64 0,.int .i64 4,.int .i64 0,.int .i64 0,.int .i64 0,.flt .f64 0,.int .i64 2,.int .i64 0,.int .i64 0,.int .i64 0,.int .i64 0,.int .i64 0,.flt .f64 0,.int .i64 4,.int .i64 2,.int .i64 0,.int .i64 0,.int .i64 0,.int .i64 0,.flt .f64 0,.int .i64 18,.int .i64 0,.int .i64 2,.int .i64 0,.int .i64 0,.int .i64 0,.flt .f64 0,.int .i64 2,.int .i64 0,.int .i64 1,.int .i64 0,.int .i64 0,.int .i64 0,.flt .f64 0,.int .i64 21,.int .i64 0,.int .i64 13,.int .i64 0,.int .i64 0,.int .i64 0,.flt .f64 0,.int .i64 2,.int .i64 0,.int .i64 0,.int .i64 0,.int .i64 0,.int .i64 0,.flt .f64 0,.int .i64 2,.int .i64 0,.int .i64 4,.int .i64 0,.int .i64 0,.int .i64 0,.flt .f64 0,.int .i64 19,.int .i64 0,.int .i64 6,.int .i64 3,.int .i64 0,.int .i64 0,.flt .f64 0,.int .i64 2,.int .i64 0,.int .i64 5,.int .i64 0,.int .i64 0,.int .i64 0,.flt .f64 0,.int .i64 1,.int .i64 5,.int .i64 0,.int .i64 0,.int .i64 5,.int .i64 0,.flt .f64 4602678819172646912,.int .i64 4,.int .i64 5,.int .i64 0,.int .i64 0,.int .i64 0,.int .i64 0,.flt .f64 0,.int .i64 18,.int .i64 0,.int .i64 5,.int .i64 0,.int .i64 0,.int .i64 0,.flt .f64 0,.int .i64 23,.int .i64 0,.int .i64 0,.int .i64 0,.int .i64 0,.int .i64 0,.flt .f64 0],.int .i64 0]
theorem e4: @uQ_ (G l4) Tryz.prog 3000 20 a4 v4=true:=by kernel_rfl
def l5:List (FuncId×List AV×AV):=(20,a4,v4)::l4
theorem o5: @kC_ (G l5) Tryz.prog:=vj_ o4 (@vg_ (G l4) Tryz.prog mo o4 3000 20 a4 v4 e4)
def a5:List AV:=[.agg [.vsl 7 10 [.str [97],.int .i64 1,.int .i64 2,.int .i64 0,.int .i64 2,.int .i64 0,.flt .f64 0,.int .i64 0,.int .i64 0,.flt .f64 0,.str [98],.int .i64 1,.int .i64 1,.int .i64 0,.int .i64 1,.int .i64 0,.flt .f64 0,.int .i64 0,.int .i64 0,.flt .f64 0,.str [111],.int .i64 2,.int .i64 2,.int .i64 0,.int .i64 2,.int .i64 1,.flt .f64 0,.int .i64 2,.int .i64 9,.flt .f64 0,.str [110],.int .i64 3,.int .i64 2,.int .i64 0,.int .i64 2,.int .i64 0,.flt .f64 0,.int .i64 0,.int .i64 0,.flt .f64 0,.str [120],.int .i64 3,.int .i64 2,.int .i64 0,.int .i64 2,.int .i64 0,.flt .f64 0,.int .i64 0,.int .i64 0,.flt .f64 0,.str [114],.int .i64 3,.int .i64 5,.int .i64 0,.int .i64 5,.int .i64 0,.flt .f64 0,.int .i64 0,.int .i64 0,.flt .f64 0,.str [107],.int .i64 3,.int .i64 2,.int .i64 3,.int .i64 2,.int .i64 0,.flt .f64 0,.int .i64 0,.int .i64 0,.flt .f64 0],.vsl 4 27 [.int .i64 1,.int .i64 2,.int .i64 2,.str [110],.str [],.int .i64 3,.int .i64 0,.int .i64 0,.int .i64 0,.flt .f64 0,.nsl,.int .i64 4,.int .i64 2,.str [],.str [],.int .i64 0,.int .i64 0,.int .i64 0,.int .i64 0,.flt .f64 0,.vsl 2 10 [.int .i64 2,.int .i64 2,.str [110],.str [],.int .i64 3,.int .i64 0,.int .i64 0,.int .i64 0,.flt .f64 0,.nsl,.int .i64 1,.int .i64 2,.str [],.str [],.int .i64 0,.int .i64 0,.int .i64 2,.int .i64 1,.flt .f64 0,.nsl],.nsl,.nsl,.str [],.int .i64 0,.int .i64 0,.nsl,.int .i64 1,.int .i64 2,.int .i64 2,.str [111],.str [],.int .i64 2,.int .i64 0,.int .i64 0,.int .i64 0,.flt .f64 0,.nsl,.int .i64 4,.int .i64 2,.str [],.str [],.int .i64 0,.int .i64 0,.int .i64 0,.int .i64 0,.flt .f64 0,.vsl 2 10 [.int .i64 2,.int .i64 2,.str [120],.str [],.int .i64 4,.int .i64 0,.int .i64 0,.int .i64 0,.flt .f64 0,.nsl,.int .i64 2,.int .i64 2,.str [97],.str [],.int .i64 0,.int .i64 0,.int .i64 0,.int .i64 0,.flt .f64 0,.nsl],.nsl,.nsl,.str [],.int .i64 0,.int .i64 0,.nsl,.int .i64 2,.int .i64 0,.int .i64 0,.str [],.str [],.int .i64 0,.int .i64 0,.int .i64 0,.int .i64 0,.flt .f64 0,.nsl,.int .i64 2,.int .i64 1,.str [98],.str [],.int .i64 1,.int .i64 0,.int .i64 0,.int .i64 0,.flt .f64 0,.nsl,.vsl 1 27 [.int .i64 1,.int .i64 3,.int .i64 2,.str [107],.str [],.int .i64 6,.int .i64 3,.int .i64 0,.int .i64 0,.flt .f64 0,.vsl 1 10 [.int .i64 2,.int .i64 2,.str [120],.str [],.int .i64 4,.int .i64 0,.int .i64 0,.int .i64 0,.flt .f64 0,.nsl],.int .i64 2,.int .i64 2,.str [97],.str [],.int .i64 0,.int .i64 0,.int .i64 0,.int .i64 0,.flt .f64 0,.nsl,.nsl,.nsl,.str [],.int .i64 0,.int .i64 0,.nsl],.nsl,.str [],.int .i64 0,.int .i64 0,.nsl,.int .i64 1,.int .i64 2,.int .i64 5,.str [114],.str [],.int .i64 5,.int .i64 0,.int .i64 0,.int .i64 0,.flt .f64 0,.nsl,.int .i64 4,.int .i64 5,.str [],.str [],.int .i64 0,.int .i64 0,.int .i64 0,.int .i64 0,.flt .f64 0,.vsl 2 10 [.int .i64 2,.int .i64 5,.str [114],.str [],.int .i64 5,.int .i64 0,.int .i64 0,.int .i64 0,.flt .f64 0,.nsl,.int .i64 1,.int .i64 5,.str [],.str [],.int .i64 0,.int .i64 0,.int .i64 5,.int .i64 0,.flt .f64 4602678819172646912,.nsl],.nsl,.nsl,.str [],.int .i64 0,.int .i64 0,.nsl]],.vsl 18 7 [.int .i64 2,.int .i64 0,.int .i64 3,.int .i64 0,.int .i64 0,.int .i64 0,.flt .f64 0,.int .i64 1,.int .i64 2,.int .i64 0,.int .i64 0,.int .i64 2,.int .i64 1,.flt .f64 0,.int .i64 4,.int .i64 2,.int .i64 0,.int .i64 0,.int .i64 0,.int .i64 0,.flt .f64 0,.int .i64 18,.int .i64 0,.int .i64 3,.int .i64 0,.int .i64 0,.int .i64 0,.flt .f64 0,.int .i64 2,.int .i64 0,.int .i64 4,.int .i64 0,.int .i64 0,.int .i64 0,.flt .f64 0,.int .i64 2,.int .i64 0,.int .i64 0,.int .i64 0,.int .i64 0,.int .i64 0,.flt .f64 0,.int .i64 4,.int .i64 2,.int .i64 0,.int .i64 0,.int .i64 0,.int .i64 0,.flt .f64 0,.int .i64 18,.int .i64 0,.int .i64 2,.int .i64 0,.int .i64 0,.int .i64 0,.flt .f64 0,.int .i64 2,.int .i64 0,.int .i64 1,.int .i64 0,.int .i64 0,.int .i64 0,.flt .f64 0,.int .i64 21,.int .i64 0,.int .i64 13,.int .i64 0,.int .i64 0,.int .i64 0,.flt .f64 0,.int .i64 2,.int .i64 0,.int .i64 0,.int .i64 0,.int .i64 0,.int .i64 0,.flt .f64 0,.int .i64 2,.int .i64 0,.int .i64 4,.int .i64 0,.int .i64 0,.int .i64 0,.flt .f64 0,.int .i64 19,.int .i64 0,.int .i64 6,.int .i64 3,.int .i64 0,.int .i64 0,.flt .f64 0,.int .i64 2,.int .i64 0,.int .i64 5,.int .i64 0,.int .i64 0,.int .i64 0,.flt .f64 0,.int .i64 1,.int .i64 5,.int .i64 0,.int .i64 0,.int .i64 5,.int .i64 0,.flt .f64 4602678819172646912,.int .i64 4,.int .i64 5,.int .i64 0,.int .i64 0,.int .i64 0,.int .i64 0,.flt .f64 0,.int .i64 18,.int .i64 0,.int .i64 5,.int .i64 0,.int .i64 0,.int .i64 0,.flt .f64 0,.int .i64 23,.int .i64 0,.int .i64 0,.int .i64 0,.int .i64 0,.int .i64 0,.flt .f64 0],.int .i64 100]
def v5:AV:=.tup [.agg [.vsl 7 10 [.str [97],.int .i64 1,.int .i64 2,.int .i64 0,.int .i64 2,.int .i64 0,.flt .f64 0,.int .i64 0,.int .i64 0,.flt .f64 0,.str [98],.int .i64 1,.int .i64 1,.int .i64 0,.int .i64 1,.int .i64 0,.flt .f64 0,.int .i64 0,.int .i64 0,.flt .f64 0,.str [111],.int .i64 2,.int .i64 2,.int .i64 0,.int .i64 2,.int .i64 1,.flt .f64 0,.int .i64 2,.int .i64 9,.flt .f64 0,.str [110],.int .i64 3,.int .i64 2,.int .i64 0,.int .i64 2,.int .i64 0,.flt .f64 0,.int .i64 0,.int .i64 0,.flt .f64 0,.str [120],.int .i64 3,.int .i64 2,.int .i64 0,.int .i64 2,.int .i64 0,.flt .f64 0,.int .i64 0,.int .i64 0,.flt .f64 0,.str [114],.int .i64 3,.int .i64 5,.int .i64 0,.int .i64 5,.int .i64 0,.flt .f64 0,.int .i64 0,.int .i64 0,.flt .f64 0,.str [107],.int .i64 3,.int .i64 2,.int .i64 3,.int .i64 2,.int .i64 0,.flt .f64 0,.int .i64 0,.int .i64 0,.flt .f64 0],.vsl 18 7 [.int .i64 2,.int .i64 0,.int .i64 3,.int .i64 0,.int .i64 0,.int .i64 0,.flt .f64 0,.int .i64 1,.int .i64 2,.int .i64 0,.int .i64 0,.int .i64 2,.int .i64 1,.flt .f64 0,.int .i64 4,.int .i64 2,.int .i64 0,.int .i64 0,.int .i64 0,.int .i64 0,.flt .f64 0,.int .i64 18,.int .i64 0,.int .i64 3,.int .i64 0,.int .i64 0,.int .i64 0,.flt .f64 0,.int .i64 2,.int .i64 0,.int .i64 4,.int .i64 0,.int .i64 0,.int .i64 0,.flt .f64 0,.int .i64 2,.int .i64 0,.int .i64 0,.int .i64 0,.int .i64 0,.int .i64 0,.flt .f64 0,.int .i64 4,.int .i64 2,.int .i64 0,.int .i64 0,.int .i64 0,.int .i64 0,.flt .f64 0,.int .i64 18,.int .i64 0,.int .i64 2,.int .i64 0,.int .i64 0,.int .i64 0,.flt .f64 0,.int .i64 2,.int .i64 0,.int .i64 1,.int .i64 0,.int .i64 0,.int .i64 0,.flt .f64 0,.int .i64 21,.int .i64 0,.int .i64 13,.int .i64 0,.int .i64 0,.int .i64 0,.flt .f64 0,.int .i64 2,.int .i64 0,.int .i64 0,.int .i64 0,.int .i64 0,.int .i64 0,.flt .f64 0,.int .i64 2,.int .i64 0,.int .i64 4,.int .i64 0,.int .i64 0,.int .i64 0,.flt .f64 0,.int .i64 19,.int .i64 0,.int .i64 6,.int .i64 3,.int .i64 0,.int .i64 0,.flt .f64 0,.int .i64 2,.int .i64 0,.int .i64 5,.int .i64 0,.int .i64 0,.int .i64 0,.flt .f64 0,.int .i64 1,.int .i64 5,.int .i64 0,.int .i64 0,.int .i64 5,.int .i64 0,.flt .f64 4602678819172646912,.int .i64 4,.int .i64 5,.int .i64 0,.int .i64 0,.int .i64 0,.int .i64 0,.flt .f64 0,.int .i64 18,.int .i64 0,.int .i64 5,.int .i64 0,.int .i64 0,.int .i64 0,.flt .f64 0,.int .i64 23,.int .i64 0,.int .i64 0,.int .i64 0,.int .i64 0,.int .i64 0,.flt .f64 0],.int .i64 100,.vsl 9 3 [.int .i64 2,.int .i64 0,.flt .f64 0,.int .i64 1,.int .i64 0,.flt .f64 0,.int .i64 2,.int .i64 1,.flt .f64 0,.int .i64 2,.int .i64 0,.flt .f64 0,.int .i64 2,.int .i64 0,.flt .f64 0,.int .i64 5,.int .i64 0,.flt .f64 0,.int .i64 2,.int .i64 0,.flt .f64 0,.int .i64 2,.int .i64 0,.flt .f64 0,.int .i64 2,.int .i64 0,.flt .f64 0],.int .i64 0,.nsl,.nsl,.int .i64 0,.int .i64 0,.bool true,.int .i64 0,.int .i64 0,.int .i64 0],.int .i64 0]
theorem e5: @uQ_ (G l5) Tryz.prog 3000 21 a5 v5=true:=by kernel_rfl
def l6:List (FuncId×List AV×AV):=(21,a5,v5)::l5
theorem o6: @kC_ (G l6) Tryz.prog:=vj_ o5 (@vg_ (G l5) Tryz.prog mo o5 3000 21 a5 v5 e5)
def a6:List AV:=[]
def v6:AV:=.tup [.vsl 7 10 [.str [97],.int .i64 1,.int .i64 2,.int .i64 0,.int .i64 2,.int .i64 0,.flt .f64 0,.int .i64 0,.int .i64 0,.flt .f64 0,.str [98],.int .i64 1,.int .i64 1,.int .i64 0,.int .i64 1,.int .i64 0,.flt .f64 0,.int .i64 0,.int .i64 0,.flt .f64 0,.str [111],.int .i64 2,.int .i64 2,.int .i64 0,.int .i64 2,.int .i64 1,.flt .f64 0,.int .i64 2,.int .i64 9,.flt .f64 0,.str [110],.int .i64 3,.int .i64 2,.int .i64 0,.int .i64 2,.int .i64 0,.flt .f64 0,.int .i64 0,.int .i64 0,.flt .f64 0,.str [120],.int .i64 3,.int .i64 2,.int .i64 0,.int .i64 2,.int .i64 0,.flt .f64 0,.int .i64 0,.int .i64 0,.flt .f64 0,.str [114],.int .i64 3,.int .i64 5,.int .i64 0,.int .i64 5,.int .i64 0,.flt .f64 0,.int .i64 0,.int .i64 0,.flt .f64 0,.str [107],.int .i64 3,.int .i64 2,.int .i64 3,.int .i64 2,.int .i64 0,.flt .f64 0,.int .i64 0,.int .i64 0,.flt .f64 0],.agg [.vsl 7 10 [.str [97],.int .i64 1,.int .i64 2,.int .i64 0,.int .i64 2,.int .i64 0,.flt .f64 0,.int .i64 0,.int .i64 0,.flt .f64 0,.str [98],.int .i64 1,.int .i64 1,.int .i64 0,.int .i64 1,.int .i64 0,.flt .f64 0,.int .i64 0,.int .i64 0,.flt .f64 0,.str [111],.int .i64 2,.int .i64 2,.int .i64 0,.int .i64 2,.int .i64 1,.flt .f64 0,.int .i64 2,.int .i64 9,.flt .f64 0,.str [110],.int .i64 3,.int .i64 2,.int .i64 0,.int .i64 2,.int .i64 0,.flt .f64 0,.int .i64 0,.int .i64 0,.flt .f64 0,.str [120],.int .i64 3,.int .i64 2,.int .i64 0,.int .i64 2,.int .i64 0,.flt .f64 0,.int .i64 0,.int .i64 0,.flt .f64 0,.str [114],.int .i64 3,.int .i64 5,.int .i64 0,.int .i64 5,.int .i64 0,.flt .f64 0,.int .i64 0,.int .i64 0,.flt .f64 0,.str [107],.int .i64 3,.int .i64 2,.int .i64 3,.int .i64 2,.int .i64 0,.flt .f64 0,.int .i64 0,.int .i64 0,.flt .f64 0],.vsl 18 7 [.int .i64 2,.int .i64 0,.int .i64 3,.int .i64 0,.int .i64 0,.int .i64 0,.flt .f64 0,.int .i64 1,.int .i64 2,.int .i64 0,.int .i64 0,.int .i64 2,.int .i64 1,.flt .f64 0,.int .i64 4,.int .i64 2,.int .i64 0,.int .i64 0,.int .i64 0,.int .i64 0,.flt .f64 0,.int .i64 18,.int .i64 0,.int .i64 3,.int .i64 0,.int .i64 0,.int .i64 0,.flt .f64 0,.int .i64 2,.int .i64 0,.int .i64 4,.int .i64 0,.int .i64 0,.int .i64 0,.flt .f64 0,.int .i64 2,.int .i64 0,.int .i64 0,.int .i64 0,.int .i64 0,.int .i64 0,.flt .f64 0,.int .i64 4,.int .i64 2,.int .i64 0,.int .i64 0,.int .i64 0,.int .i64 0,.flt .f64 0,.int .i64 18,.int .i64 0,.int .i64 2,.int .i64 0,.int .i64 0,.int .i64 0,.flt .f64 0,.int .i64 2,.int .i64 0,.int .i64 1,.int .i64 0,.int .i64 0,.int .i64 0,.flt .f64 0,.int .i64 21,.int .i64 0,.int .i64 13,.int .i64 0,.int .i64 0,.int .i64 0,.flt .f64 0,.int .i64 2,.int .i64 0,.int .i64 0,.int .i64 0,.int .i64 0,.int .i64 0,.flt .f64 0,.int .i64 2,.int .i64 0,.int .i64 4,.int .i64 0,.int .i64 0,.int .i64 0,.flt .f64 0,.int .i64 19,.int .i64 0,.int .i64 6,.int .i64 3,.int .i64 0,.int .i64 0,.flt .f64 0,.int .i64 2,.int .i64 0,.int .i64 5,.int .i64 0,.int .i64 0,.int .i64 0,.flt .f64 0,.int .i64 1,.int .i64 5,.int .i64 0,.int .i64 0,.int .i64 5,.int .i64 0,.flt .f64 4602678819172646912,.int .i64 4,.int .i64 5,.int .i64 0,.int .i64 0,.int .i64 0,.int .i64 0,.flt .f64 0,.int .i64 18,.int .i64 0,.int .i64 5,.int .i64 0,.int .i64 0,.int .i64 0,.flt .f64 0,.int .i64 23,.int .i64 0,.int .i64 0,.int .i64 0,.int .i64 0,.int .i64 0,.flt .f64 0],.int .i64 100,.vsl 9 3 [.int .i64 2,.int .i64 0,.flt .f64 0,.int .i64 1,.int .i64 0,.flt .f64 0,.int .i64 2,.int .i64 1,.flt .f64 0,.int .i64 2,.int .i64 0,.flt .f64 0,.int .i64 2,.int .i64 0,.flt .f64 0,.int .i64 5,.int .i64 0,.flt .f64 0,.int .i64 2,.int .i64 0,.flt .f64 0,.int .i64 2,.int .i64 0,.flt .f64 0,.int .i64 2,.int .i64 0,.flt .f64 0],.int .i64 0,.nsl,.nsl,.int .i64 0,.int .i64 0,.bool true,.int .i64 0,.int .i64 0,.int .i64 0]]
theorem e6: @uQ_ (G l6) Tryz.prog 3000 7 a6 v6=true:=by kernel_rfl
def l7:List (FuncId×List AV×AV):=(7,a6,v6)::l6
theorem o7: @kC_ (G l7) Tryz.prog:=vj_ o6 (@vg_ (G l6) Tryz.prog mo o6 3000 7 a6 v6 e6)
def a7:List AV:=[.vsl 7 10 [.str [97],.int .i64 1,.int .i64 2,.int .i64 0,.int .i64 2,.int .i64 0,.flt .f64 0,.int .i64 0,.int .i64 0,.flt .f64 0,.str [98],.int .i64 1,.int .i64 1,.int .i64 0,.int .i64 1,.int .i64 0,.flt .f64 0,.int .i64 0,.int .i64 0,.flt .f64 0,.str [111],.int .i64 2,.int .i64 2,.int .i64 0,.int .i64 2,.int .i64 1,.flt .f64 0,.int .i64 2,.int .i64 9,.flt .f64 0,.str [110],.int .i64 3,.int .i64 2,.int .i64 0,.int .i64 2,.int .i64 0,.flt .f64 0,.int .i64 0,.int .i64 0,.flt .f64 0,.str [120],.int .i64 3,.int .i64 2,.int .i64 0,.int .i64 2,.int .i64 0,.flt .f64 0,.int .i64 0,.int .i64 0,.flt .f64 0,.str [114],.int .i64 3,.int .i64 5,.int .i64 0,.int .i64 5,.int .i64 0,.flt .f64 0,.int .i64 0,.int .i64 0,.flt .f64 0,.str [107],.int .i64 3,.int .i64 2,.int .i64 3,.int .i64 2,.int .i64 0,.flt .f64 0,.int .i64 0,.int .i64 0,.flt .f64 0]]
def v7:AV:=.vsl 9 4 [.str [97],.int .i64 0,.int .i64 2,.int .i64 1,.str [98],.int .i64 1,.int .i64 1,.int .i64 1,.str [111],.int .i64 2,.int .i64 2,.int .i64 2,.str [110],.int .i64 3,.int .i64 2,.int .i64 3,.str [120],.int .i64 4,.int .i64 2,.int .i64 3,.str [114],.int .i64 5,.int .i64 5,.int .i64 3,.str [107,91,48,93],.int .i64 6,.int .i64 2,.int .i64 3,.str [107,91,49,93],.int .i64 7,.int .i64 2,.int .i64 3,.str [107,91,50,93],.int .i64 8,.int .i64 2,.int .i64 3]
theorem e7: @uQ_ (G l7) Tryz.prog 3000 135 a7 v7=true:=by kernel_rfl
def l8:List (FuncId×List AV×AV):=(135,a7,v7)::l7
theorem o8: @kC_ (G l8) Tryz.prog:=vj_ o7 (@vg_ (G l7) Tryz.prog mo o7 3000 135 a7 v7 e7)
theorem eb: @uQ_ (G l8) Tryz.prog 3000 6 [] (.bool true)=true:=by kernel_rfl
end Beg
theorem k6:ju_ Tryz.prog 6 [] (.bool true):= @vg_ (Beg.G Beg.l8) Tryz.prog mo Beg.o8 3000 6 [] (.bool true) Beg.eb
theorem k7:ju_ Tryz.prog 7 [] Beg.v6:= @vg_ (Beg.G Beg.l6) Tryz.prog mo Beg.o6 3000 7 [] Beg.v6 Beg.e6
structure AnsOk (who:Int) (s:GS) (mail:SV encR 4) (m:GM) (an:AN):Prop where
 id:an.a.id=m.id
 sm:an.a.Sm
 yes:an.waits=true->∃w:GR,an.mail.l=mail.l++[w]/\w.id=m.id/\w.sess=who/\w.Sm
 no:an.waits=false->an.mail=mail
 len:an.subs.l.length<=s.subs.l.length+1
 subs:∀w∈an.subs.l,w.Sm
theorem vR_ (q:ST) (who:Int) (s:GS) (hs:∀w∈s.subs.l,w.Sm) (mail:SV encR 4) (now:Int) (m:GM) (hm:m.Sm):AnsOk who s mail m (b_ q who s mail now m):=by have same:∀(a:GM),a.id=m.id->a.Sm->AnsOk who s mail m ⟨a,false,s.subs,s.num,mail⟩:=λa h1 h2=>⟨h1,h2,(λh=>by cases h),λ_=>rfl,Nat.le_succ _,hs⟩;have sm0:∀e n:Int,(m_ m.id e n .nil .nil).Sm:=λe n=>⟨Nat.zero_le _,Nat.zero_le _⟩;unfold b_;split;split;rename_i ts e;obtain ⟨_,h4,_⟩:=y_ e;exact same _ rfl ⟨Nat.zero_le _,by show (ts.map (B_ q.im.l)).length<=1000;rw [List.length_map];omega⟩;exact same _ rfl (sm0 _ _);split;split;rename_i l e;refine ⟨rfl,sm0 _ _,λ_=>?_,(λh=>by cases h),Nat.le_succ _,hs⟩;unfold n_ at e;split at e;cases e;rename_i ts he;obtain ⟨_,h4,_⟩:=y_ he;split at e;cases e;split at e;cases e;split at e;cases e;split at e;cases e;unfold qi_ at e;split at e;cases e;cases e;exact ⟨wOf who m ts,rfl,rfl,rfl,by show (ts.map GG.addr).length<=1000;rw [List.length_map];omega,hm.2⟩;exact same _ rfl (sm0 _ _);split;split;refine same _ rfl ⟨?_,Nat.zero_le _⟩;show ((w_ TL m.n.toNat).map GG.path).length<=1000;rw [List.length_map];have:=hK_ m.n.toNat;omega;exact same _ rfl (sm0 _ _);split;split;rename_i w e;refine ⟨rfl,sm0 _ _,(λh=>by cases h),λ_=>rfl,?_,λw' hw=>?_⟩;show (s.subs.l++[w]).length<=_;rw [List.length_append,List.length_singleton];omega;have hw:w'∈s.subs.l++[w]:=hw;rcases List.mem_append.1 hw with hw|hw;exact hs w' hw;rw [List.mem_singleton.1 hw];unfold G_ at e;split at e;cases e;split at e;cases e;split at e;cases e;cases e;exact Nat.zero_le _;exact same _ rfl (sm0 _ _);split;split;rename_i i e;refine ⟨rfl,sm0 _ _,(λh=>by cases h),λ_=>rfl,?_,λw' hw=>?_⟩;show (s.subs.l.eraseIdx i).length<=_;have:=List.length_eraseIdx_le s.subs.l i;omega;exact hs w' (List.mem_of_mem_eraseIdx hw);exact same _ rfl (sm0 _ _);exact same _ rfl (sm0 _ _)
theorem v2_ {s:GS} (hs:s.Sm) {t:SV f_ 12} {m:GM} (ht:s.inn.l=m::t.l) {who:Int} {mail:SV encR 4} {an:AN} (ha:AnsOk who s mail m an) (ho:s.out.l.length<=900) (hl:s.subs.l.length<=900):(P_ s t an).Sm:=by have hi:=hs.inn;rw [ht]at hi;refine ⟨hs.b,by show t.l.length<=1000;simp at hi;omega,?_,by have:=ha.len;show an.subs.l.length<=1000;omega,λx hx=>hs.inM x (by rw [ht];exact List.mem_cons_of_mem _ hx),λx hx=>?_,ha.subs⟩;show (if an.waits=true then SV.of s.out.l else .of (s.out.l++[an.a])).l.length<=1000;split;show s.out.l.length<=1000;omega;show (s.out.l++[an.a]).length<=1000;rw [List.length_append,List.length_singleton];omega;have hx:x∈(if an.waits=true then SV.of s.out.l else .of (s.out.l++[an.a])).l:=hx;split at hx;exact hs.outM x hx;rcases List.mem_append.1 hx with hx|hx;exact hs.outM x hx;rw [List.mem_singleton.1 hx];exact ha.sm
theorem sb_ (s:GS) (t:SV f_ 12) (an:AN):(P_ s t an).out.l=if an.waits=true then s.out.l else s.out.l++[an.a]:=by show (if an.waits=true then SV.of s.out.l else .of (s.out.l++[an.a])).l=_;split<;>rfl
theorem vQ_ {α:Type} {enc:α->List AV} {p:List AV->Prop} {q:α->Prop} (h:∀r,p r->∃a,r=enc a/\q a):∀rows:List (List AV),(∀r,r∈rows->p r)->∃l:List α,rows.flatten=bq_ enc l/\l.length=rows.length/\∀a,a∈l->q a
 |[],_=>⟨[],rfl,rfl,λa h=>by cases h⟩
 |r::rows,hr=>by obtain ⟨a,rfl,ha⟩:=h r (hr r (List.mem_cons_self ..));obtain ⟨l,h1,h2,h3⟩:=vQ_ h rows λr h=>hr r (List.mem_cons_of_mem _ h);refine ⟨a::l,by rw [List.flatten_cons,h1];rfl,by simp [h2],λb hb=>?_⟩;rcases List.mem_cons.1 hb with rfl|hb;exact ha;exact h3 b hb
theorem wV_ {r:List AV} (h:Sx.Fit Tryz.prog 5 r):∃c:UInt8,r=R_ c/\True:=by
 obtain ⟨n,rfl,hn⟩:=to_ Tryz.underlying5 h;have hn:0<=n/\n<=255:=by simpa [Lit.wf,IntKind.min,IntKind.max,IntKind.bits,IntKind.signed]using hn
 refine ⟨n.toNat.toUInt8,?_,trivial⟩;have:((n.toNat.toUInt8).toNat:Int)=n:=by have h1:n.toNat.toUInt8.toNat=n.toNat:=(by simp only [Nat.toUInt8,UInt8.toNat_ofNat'];omega);rw [h1];omega
 unfold R_;rw [this]
theorem arg_u8s {H:Type} {enc:TypeId×Value->H} {W:World} {base:Nat} {v:Value} {dd:DataW H} {p ps:List MemPlace} (hok:Value.okWide Tryz.prog W .any base 22 v)
  (h:DataW.Trod enc Tryz.prog W 0 (λ_=>true) true 22 v dd p) (hps:∀q,q∈p->q∈ps):∃(l:List UInt8) (a:AV),SlV R_ 1 l a/\True/\l.length<=maxLen/\Con (j1_ (k5_ W ps)) a v:=by
 rcases ur_ (d:=5) Tryz.underlying22 (by kernel_rfl) hok h hps with rfl|⟨rows,h1,h2,h3,h4⟩;exact ⟨[],.nsl,.inr ⟨rfl,rfl⟩,trivial,Nat.zero_le _,by simp only [Con]⟩;obtain ⟨l,k1,k2,k3⟩:=vQ_ (enc:=R_) (q:=λ_=>True) (λr hr=>wV_ hr) rows h1;have hc:Tryz.prog.cellsOf 5=1:=(by kernel_rfl);refine ⟨l,dq_ R_ 1 l,.inl rfl,trivial,by omega,?_⟩;have h4':=h4;rw [k1,hc,←k2]at h4';exact h4'
def xp_:AV:=match Beg.v6 with
 | .tup [_,.agg (_::c::_)]=>c
 |_=>.nsl
def im0:List FV:=[⟨2,0,some 0⟩,⟨1,0,some 0⟩,⟨2,1,some 0⟩,⟨2,0,some 0⟩,⟨2,0,some 0⟩,⟨5,0,some 0⟩,⟨2,0,some 0⟩,⟨2,0,some 0⟩,⟨2,0,some 0⟩]
def q0:ST:=⟨VARS,xp_,.int .i64 100,.v im0,.int .i64 0,.nsl,.nsl,.int .i64 0,.int .i64 0,.bool true,.int .i64 0,0,.int .i64 0,by kernel_rfl⟩
theorem v6_is:Beg.v6=.tup [VARS,.agg (S_ q0)]:=by kernel_rfl
theorem rG_:ju_ Tryz.prog 7 [] (.tup [VARS,.agg (S_ q0)]):=v6_is▸k7
theorem yz_:okL (VARS::S_ q0)=true:=by rw [aY_,z_];exact okQ q0
theorem vP_ (s:GS) (x:AV) (b:Bool) (h:okC x=true):okL (i_ s++[x,.bool b])=true:=kN_.okL_join (okS s) (by simp only [okL,okC,h])
def tm_ (ms:List GM):GS:=⟨true,0,.nil,false,.of ms,.nil,.nil,0⟩
end Go.Proofs.YtijpblconliffaaGreatDoor.vars
