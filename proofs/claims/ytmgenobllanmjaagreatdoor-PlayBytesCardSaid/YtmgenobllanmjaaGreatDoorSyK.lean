/-
  What operations give at values of known forms; a call of symbols, by its tree.
-/
import Derived.Test.YtmgenobllanmjaaGreatDoorSyP
import Derived.Test.YtmgenobllanmjaaGreatDoorSyM
import Derived.Test.YtmgenobllanmjaaGreatDoorSyE
set_option linter.unusedVariables false
set_option linter.unusedSimpArgs false
namespace Go.Sx
section
variable (P:Program) (t:TypeId) (cx cy:Bool) (k:IntKind) (a b:Int)
theorem kix_self:Nat.beq (kix k) (kix k)=true:=Nat.beq_refl _
theorem c3_ {op:BinOp} {r:AV} (h:dy_ op k a b=some r):(XOp.bin op t cx cy).run P [.int k a,.int k b]=some r:=by
 show cg_ P op k a k b=some r
 grind [cg_,kix_self]
theorem run_lss:(XOp.bin .lss t cx cy).run P [.int k a,.int k b]=some (.bool (decide (a<b))):=c3_ P t cx cy k a b (by grind [eS_,dy_])
theorem run_gtr:(XOp.bin .gtr t cx cy).run P [.int k a,.int k b]=some (.bool (decide (b<a))):=c3_ P t cx cy k a b (by grind [eS_,dy_])
theorem run_leq:(XOp.bin .leq t cx cy).run P [.int k a,.int k b]=some (.bool (decide (a<=b))):=c3_ P t cx cy k a b (by grind [eS_,dy_])
theorem run_geq:(XOp.bin .geq t cx cy).run P [.int k a,.int k b]=some (.bool (decide (b<=a))):=c3_ P t cx cy k a b (by grind [eS_,dy_])
theorem run_eql:(XOp.bin .eql t cx cy).run P [.int k a,.int k b]=some (.bool (decide (a=b))):=c3_ P t cx cy k a b (by grind [fU_,dy_])
theorem run_neq:(XOp.bin .neq t cx cy).run P [.int k a,.int k b]=some (.bool (!decide (a=b))):=c3_ P t cx cy k a b (by grind [fU_,dy_])
theorem run_add:(XOp.bin .add t cx cy).run P [.int k a,.int k b]=some (.int k (k.wrap (a+b))):=c3_ P t cx cy k a b (by grind [cA_,cp_,dy_])
theorem run_sub:(XOp.bin .sub t cx cy).run P [.int k a,.int k b]=some (.int k (k.wrap (a-b))):=c3_ P t cx cy k a b (by grind [cA_,cp_,dy_])
theorem run_mul:(XOp.bin .mul t cx cy).run P [.int k a,.int k b]=some (.int k (k.wrap (a*b))):=c3_ P t cx cy k a b (by grind [cA_,cp_,dy_])
theorem wl_ (x:Bool):(XOp.un .not).run P [.bool x]=some (.bool (!x)):=rfl
variable {P t}
theorem us_ (ht:P.underlying t=some .string) (s:List UInt8):(XOp.len t).run P [.str s]=some (.int .i64 (s.length:Int)):=by
 show cJ_ P h0 t (.str s)=_
 grind [cJ_,cA_,cF_]
end
theorem wK_ {x:Int} (h1: -9223372036854775808<=x) (h2:x<=9223372036854775807):IntKind.i64.wrap x=x:=by simp [IntKind.wrap,IntKind.bits,IntKind.signed];omega
variable [Gl]
theorem wb_ {P:Program} (hm:P.follows .mixedOrders=true) (ho:j0_ P) {f:FuncId} {ft:FT} {vs:List AV} {R:Nat->List AV->Prop} {c:VC} {n:Nat} {t:VT} (hlen:vs.length=ft.ent.nv) (hk:∀Y,Fresh Y 64->KnownF P c.fc (Y.puts 64 vs))
  (ht:v3_ P n c f ft=t) (h:∀Y,Fresh Y 64->Gl.gt Y.v->VOK P (QF R) [] (Y.puts 64 vs) t):CF P f ft vs R:=
 ⟨hlen,λY hf B pr E w us hy hg hr hcon=>by obtain ⟨p1,_,_,p4⟩:=hf.puts vs;rw [hlen]at p1;have hgt:Gl.gt Y.v:=Gl.gtm _ _ (λi hi=>by rw [hy.v];grind) hg.2;exact tU_ (c:=c) (fuel:=n) hm (cd_ hm ho n) ⟨p1,hk Y hf⟩ (by grind) B pr E w us hy hg hr hcon⟩
end Go.Sx
namespace Go.Sx
section
variable [Gl] {P:Program} {Q:AV->Prop} {L:List (Nat->List AV->Prop)} {Y:Sy}
theorem wt_ {op:XOp} {args:List AV} {n:Nat} {t:VT} {r:AV} (h1:op.run P (ab_ Y.v args)=some r) (h2:okC r=true) (h3:VOK P Q L (Y.put n r) t):VOK P Q L Y (.lt op args n none t):=⟨r,h1,h2,h3⟩
theorem v9_ {op:XOp} {args:List AV} {n k:Nat} {t:VT} {cs:List AV} (h1:op.run P (ab_ Y.v args)=some (.agg cs)) (hl:cs.length=k) (h2:okL cs=true) (h3:VOK P Q L (Y.puts n cs) t):VOK P Q L Y (.lt op args n (some k) t):=⟨cs,h1,hl,h2,h3⟩
theorem v8_ {i:Nat} {a b:VT} {t:Bool} (h:Y.v i=some (.bool t)) (h1:t=true->VOK P Q L Y a) (h2:t=false->VOK P Q L Y b):VOK P Q L Y (.ite i a b):=⟨t,h,h1,h2⟩
theorem vy_ {f:FuncId} {args:List AV} {n:Nat} {sh:List (Option Nat)} {t:VT} {v:AV} {vs:List AV} (h1:iu_ P f (ab_ Y.v args) v) (h2:hJ_ sh v=some vs) (h3:okL vs=true) (h4:VOK P Q L (Y.puts n vs) t):VOK P Q L Y (.call f args n sh t):=
 ⟨v,vs,h1,h2,h3,h4⟩
theorem vn_ {f:FuncId} {ft:FT} {hv:List AV} {n:Nat} {bs:VTs} {R:Nat->List AV->Prop} (h1:CF P f ft (ab_ Y.v hv) R) (h2:okL (ab_ Y.v hv)=true) (h3:sX_ P Q R L (Y.puts n (ab_ Y.v hv)) (Nat.add n ft.ent.nv) 0 bs):VOK P Q L Y (.callF f ft hv n bs):=⟨R,h1,h2,h3⟩
theorem VOK_fin {R:Nat->List AV->Prop} {j:Nat} {hv:List AV} (h1:okL (ab_ Y.v hv)=true) (h:R j (ab_ Y.v hv)):VOK P (QF R) L Y (.done (.tup (.int .i64 (.ofNat j)::hv))):=⟨j,_,rfl,h1,h⟩
theorem vz_ {v:AV} (h:Q (den Y.v v)):VOK P Q L Y (.done v):=h
theorem vm_ {lvl j:Nat} {hv:List AV} {R:Nat->List AV->Prop} (h1:L[lvl]? =some R) (h2:R j (ab_ Y.v hv)):VOK P Q L Y (.again lvl j hv):=⟨R,h1,h2⟩
open Classical in
theorem vA_ {ι:Type} (st:ι->List AV) (p:ι->Prop) (μ:ι->Nat) (i0:ι) (h0:p i0) {n nv:Nat} {hv:List AV} {t:VT} (he:ab_ Y.v hv=st i0) (hok:∀i,p i->okL (st i)=true)
  (hμ:∀i j,p i->p j->st i=st j->μ i=μ j) (hb:∀i,p i->VOK P Q (L++[λ_ vs=>∃i',p i'/\vs=st i'/\μ i'<μ i]) (Y.puts n (st i)) t):VOK P Q L Y (.loop n 0 hv (.cons nv t .nil)):=by
 let m:List AV->Nat:=λvs=>if h:∃i,p i/\vs=st i then μ (Classical.choose h)else 0
 have hm:∀i,p i->m (st i)=μ i:=λi hi=>by
  have h:∃j,p j/\st i=st j:=⟨i,hi,rfl⟩
  grind
 refine ⟨λ_ vs=>∃i,p i/\vs=st i,λ_ vs=>m vs,λj vs ⟨i,h1,h2⟩=>by grind,⟨i0,h0,he⟩,λvs hvs hI=>?_,trivial⟩;obtain ⟨i,h1,h2⟩:=hI;subst h2;have e:(λ(_:Nat) (vs':List AV)=>(∃i',p i'/\vs'=st i')/\m vs'<m (st i))=λ_ vs'=>∃i',p i'/\vs'=st i'/\μ i'<μ i:=by
  funext _ vs'
  refine propext ⟨λh=>?_,λh=>?_⟩
  .grind
  .obtain ⟨i',g1,g2,g3⟩:=h;subst g2
   grind
 grind
end
theorem ho_:∀(n:Nat) (sh:List (Option Nat)),ad_ (b4_ n sh)=true
 |_,[]=>rfl
 |n,none::s=>by simp only [b4_,ad_,ae_];exact ho_ _ s
 |n,some m::s=>by simp only [b4_,ad_,ae_,hV_];exact ho_ _ s
theorem g3_:∀{sh:List (Option Nat)} {l vs:List AV},flat sh l=some vs->okL vs=true->jh_ l=true
 |[],[],vs,h,_=>rfl
 |none::s,a::r,vs,h,hok=>by unfold flat at h;split at h;rename_i l' hl;cases h;rw [a0_]at hok;obtain ⟨k1,k2⟩:=aa_ hok;simp only [jh_,ts_ k1,g3_ hl k2];cases h
 |some m::s,a::r,vs,h,hok=>by have ha:∃cs,a=.agg cs:=(by cases a<;>first|exact ⟨_,rfl⟩|(cases h));obtain ⟨cs,rfl⟩:=ha;simp only [flat]at h;split at h;split at h;rename_i l' hl;cases h;obtain ⟨k1,k2⟩:=f0_ hok;simp only [jh_,okI,k1,g3_ hl k2];cases h;cases h
 |[],_::_,vs,h,_=>by cases h
 |none::_,[],vs,h,_=>by cases h
 |some _::_,[],vs,h,_=>by cases h
theorem fS_ {s:Nat->Option AV}:∀(sh:List (Option Nat)) (n:Nat) (l vs:List AV),flat sh l=some vs->(∀i a,vs[i]? =some a->s (n+i)=some a)->ab_ s (b4_ n sh)=l
 |[],n,[],vs,h,_=>rfl
 |none::sh,n,a::r,vs,h,hs=>by
  unfold flat at h;split at h
  .rename_i l' hl;cases h;have h0:s n=some a:=(by simpa using hs 0 a rfl);simp only [b4_,ab_,den,h0];rw [fS_ sh (n+1) r l' hl λi b hb=>by
    have:=hs (i+1) b (by grind)
    grind]
  cases h
 |some m::sh,n,a::r,vs,h,hs=>by
  have ha:∃cs,a=.agg cs:=(by cases a<;>first|exact ⟨_,rfl⟩|(cases h));obtain ⟨cs,rfl⟩:=ha;simp only [flat]at h;split at h
  .rename_i hd;have hd:cs.length=m:=of_decide_eq_true hd;subst hd;split at h
   .rename_i l' hl;cases h;show AV.agg (ab_ s (ag_ n cs.length))::ab_ s (b4_ (n+cs.length) sh)=_;rw [fS_ sh (n+cs.length) r l' hl λi b hb=>by
     have:=hs (cs.length+i) b (by grind)
     grind]
    rw [den_symsL n cs λi b hb=>hs i b (by
     grind)]
   cases h
  cases h
 |[],_,_::_,vs,h,_=>by cases h
 |none::_,_,[],vs,h,_=>by cases h
 |some _::_,_,[],vs,h,_=>by cases h
where
 den_symsL {s:Nat->Option AV}:∀(n:Nat) (cs:List AV),(∀i a,cs[i]? =some a->s (n+i)=some a)->ab_ s (ag_ n cs.length)=cs
 |n,[],_=>rfl
 |n,a::r,h=>by
  have h0:s n=some a:=(by simpa using h 0 a rfl);simp only [List.length_cons,ag_,ab_,den,h0];rw [den_symsL (n+1) r λi b hb=>by
   have:=h (i+1) b (by grind)
   grind]
theorem uW_ [Gl] {P:Program} (hm:P.follows .mixedOrders=true) (ho:j0_ P) {f:FuncId} {args ls:List AV} {sh:List (Option Nat)} {v:AV} {c:VC} {n m:Nat} {t:VT} (hfl:flat sh args=some ls) (hls:okL ls=true) (hv:a1_ v=true)
  (hk:∀Y,Fresh Y 64->KnownF P c.fc (Y.puts 64 ls)) (hm':64+dD_ sh=m) (ht:vFn P n c f (b4_ 64 sh) m=t) (h:∀Y,Fresh Y 64->Gl.gt Y.v->VOK P (· =v) [] (Y.puts 64 ls) t):iu_ P f args v:=
 pure_sym (args':=b4_ 64 sh) (g3_ hfl hls) hv (ho_ _ _) hls (λY hf=>fS_ sh 64 args ls hfl λi a ha=>bB_ ls hf i a ha) λY hf hg=>
  (sI_ (c:=c) (n:=m) hm (cd_ hm ho n) ⟨by have:=(hf.puts ls).1;grind [gr_],hk Y hf⟩ (by grind)).low
theorem vV_ [Gl] {P:Program} (hm:P.follows .mixedOrders=true) (ho:j0_ P) {f:FuncId} {args args' ls:List AV} {v:AV} {c:VC} {n m:Nat} {t:VT} (hok:jh_ args=true) (hso:ad_ args'=true) (hls:okL ls=true) (hv:a1_ v=true)
  (hden:∀Y,Fresh Y 64->ab_ (Y.puts 64 ls).v args'=args) (hk:∀Y,Fresh Y 64->KnownF P c.fc (Y.puts 64 ls)) (hm':64+ls.length=m) (ht:vFn P n c f args' m=t) (h:∀Y,Fresh Y 64->Gl.gt Y.v->VOK P (· =v) [] (Y.puts 64 ls) t):iu_ P f args v:=
 pure_sym (args':=args') hok hv hso hls hden λY hf hg=>
  (sI_ (c:=c) (n:=m) hm (cd_ hm ho n) ⟨by have:=(hf.puts ls).1;grind,hk Y hf⟩ (by grind)).low
theorem wB_ [Gl] {P:Program} (Y:Sy):KnownF P ⟨[],[]⟩ Y:=⟨λf h=>(List.not_mem_nil h).elim,λf h=>(List.not_mem_nil h).elim⟩
def a9_ {α:Type} (enc:α->List AV):List α->List AV
 |[]=>[]
 |a::r=>enc a++a9_ enc r
def bb_ {α:Type} (enc:α->List AV) (w:Nat) (l:List α):AV:=match l with
 |[]=>.nsl
 |a::r=>.vsl (r.length+1) w (a9_ enc (a::r))
section
variable {α:Type} {enc:α->List AV} {w:Nat}
theorem dw_:∀a b:List α,a9_ enc (a++b)=a9_ enc a++a9_ enc b
 |[],b=>rfl
 |x::r,b=>by simp only [List.cons_append,a9_,dw_ r b,List.append_assoc]
theorem bw_ (hw:∀a,(enc a).length=w):∀l:List α,(a9_ enc l).length=l.length*w
 |[]=>by simp [a9_]
 |a::r=>by simp only [a9_,List.length_append,hw,bw_ hw r,List.length_cons,Nat.add_mul];omega
theorem gT_ (hw:∀a,(enc a).length=w):∀(l:List α) (i:Nat),(a9_ enc l).drop (i*w)=a9_ enc (l.drop i)
 |l,0=>by simp
 |[],i+1=>by simp [a9_]
 |a::r,i+1=>by simp only [a9_,List.drop_succ_cons];rw [←gT_ hw r i,Nat.add_mul,Nat.one_mul,Nat.add_comm,←List.drop_drop,List.drop_left' (hw a)]
theorem lm_ (h:∀a,okL (enc a)=true):∀l:List α,okL (a9_ enc l)=true
 |[]=>rfl
 |a::r=>okL_join (h a) (lm_ h r)
where
 okL_join:∀{a b:List AV},okL a=true->okL b=true->okL (a++b)=true
 |[],b,_,h=>h
 |x::r,b,h1,h2=>by rw [a0_]at h1;obtain ⟨k1,k2⟩:=aa_ h1;rw [List.cons_append,a0_,k1,okL_join k2 h2];rfl
theorem u3_ (h:∀a,okL (enc a)=true) (l:List α):okC (bb_ enc w l)=true:=by
 cases l with
 |nil=>rfl
 |cons a r=>exact lm_ h (a::r)
mutual
theorem qB_:∀{a:AV},okC a=true->a1_ a=true
 | .opq,h=>by simp [okC]at h
 | .bool _,_=>rfl
 | .int _ _,_=>rfl
 | .flt _ _,_=>rfl
 | .nan _,_=>rfl
 | .str _,_=>rfl
 | .nptr,_=>rfl
 | .ptr _ _,h=>by simp [okC]at h
 | .vptr cs,h=>by simp only [okC]at h;simp only [a1_];exact b8_ h
 | .nsl,_=>rfl
 | .sl ..,h=>by simp [okC]at h
 | .vsl _ _ cs,h=>by simp only [okC]at h;simp only [a1_];exact b8_ h
 | .nmap,_=>rfl
 | .map _,h=>by simp [okC]at h
 | .nfn,_=>rfl
 | .fn _ cs,h=>by simp only [okC]at h;simp only [a1_];exact b8_ h
 | .nif,_=>rfl
 | .iface _ a,h=>by simp only [okC]at h;simp only [a1_];exact kU_ h
 | .agg _,h=>by simp [okC]at h
 | .tup _,h=>by simp [okC]at h
 | .sym _,h=>by simp [okC]at h
 | .slx ..,h=>by simp [okC]at h
 | .ptx ..,h=>by simp [okC]at h
theorem kU_:∀{a:AV},okI a=true->a1_ a=true
 | .opq,h=>by simp [okI]at h
 | .bool _,_=>rfl
 | .int _ _,_=>rfl
 | .flt _ _,_=>rfl
 | .nan _,_=>rfl
 | .str _,_=>rfl
 | .nptr,_=>rfl
 | .ptr _ _,h=>by simp [okI]at h
 | .vptr cs,h=>by simp only [okI]at h;simp only [a1_];exact b8_ h
 | .nsl,_=>rfl
 | .sl ..,h=>by simp [okI]at h
 | .vsl _ _ cs,h=>by simp only [okI]at h;simp only [a1_];exact b8_ h
 | .nmap,_=>rfl
 | .map _,h=>by simp [okI]at h
 | .nfn,_=>rfl
 | .fn _ cs,h=>by simp only [okI]at h;simp only [a1_];exact b8_ h
 | .nif,_=>rfl
 | .iface _ a,h=>by simp only [okI]at h;simp only [a1_];exact kU_ h
 | .agg cs,h=>by simp only [okI]at h;simp only [a1_];exact b8_ h
 | .tup _,h=>by simp [okI]at h
 | .sym _,h=>by simp [okI]at h
 | .slx ..,h=>by simp [okI]at h
 | .ptx ..,h=>by simp [okI]at h
theorem b8_:∀{l:List AV},okL l=true->cl_ l=true
 |[],_=>rfl
 |a::r,h=>by rw [a0_]at h;obtain ⟨h1,h2⟩:=aa_ h;simp only [cl_,qB_ h1,b8_ h2]
end
variable {P:Program} {t e:TypeId} {ti:TypeInfo}
theorem lS_ (ht:P.underlying t=some (.slice e)) (hi:P.info? e=some ti) (hs:ti.size=w) (hw:∀a,(enc a).length=w) {l:List α} {i:Nat} (h:i<l.length) (k:IntKind):
  (XOp.iaddr t).run P [bb_ enc w l,.int k (i:Int)]=some (.vptr (a9_ enc (l.drop i))):=by
 cases l with
 |nil=>simp at h
 |cons a r=>
  show aS_ P t (.vsl (r.length+1) w _) (.int k (.ofNat i))=_;unfold aS_;have hb:Nat.blt i (r.length+1)=true:=(by simp_all);simp only [ht,hi,idx,hb,hs,aA_]
  grind [gT_]
theorem cN_:∀(a b:List AV),aX_ a.length (a++b)=some a
 |[],b=>rfl
 |x::r,b=>by simp only [List.length_cons,List.cons_append,aX_,cN_ r b]
theorem tF_ {d:TypeDesc} (ht:P.underlying t=some d) (ha:l7_ d=true) (hi:P.info? t=some ti) (hs:ti.size=w) (hw:∀a,(enc a).length=w) {l:List α} {i:Nat} (h:i<l.length):
  (XOp.load t).run P [.vptr (a9_ enc (l.drop i))]=some (.agg (enc l[i])):=by
 show bn_ P h0 t (.vptr _)=_
 grind [bn_,aV_,List.drop_eq_getElem_cons,a9_,cN_]
theorem tG_ {d:TypeDesc} (ht:P.underlying t=some d) (ha:l7_ d=false) (x:AV) (r:List AV):(XOp.load t).run P [.vptr (x::r)]=some x:=by
 show bn_ P h0 t (.vptr _)=_
 grind [bn_,aV_,aX_]
theorem uZ_ {sz bytes:Nat} (hw:∀a,(enc a).length=sz) (hsz:0<sz) (hb:0<bytes) (l:List α) (a:α) (hl:(l.length+1)*bytes<=1073741824):(XOp.app sz bytes).run P [bb_ enc sz l,.agg (enc a)]=some (bb_ enc sz (l++[a])):=by
 have h1:Nat.div (aL_ (enc a)) sz=1:=by rw [ai_,hw];exact Nat.div_self hsz
 have hl1:l.length+1<=1073741824:=Nat.le_trans (Nat.le_mul_of_pos_right _ hb) hl;show (match by_ sz (.agg (enc a))with|some (n,l')=>iA_ sz bytes (bb_ enc sz l) n l'|none=>none)=_;simp only [by_,h1];unfold iA_;have hd:decide ((enc a).length=1*sz)=true:=by grind
 simp only [hd];cases l with
 |nil=>
  have c1:(Nat.ble (Nat.mul 1 bytes) 1073741824&&Nat.ble 1 1073741824&&Nat.blt 0 bytes)=true:=by simp_all
  grind [bb_,a9_]
 |cons b r=>
  have c1:(Nat.ble (Nat.mul (Nat.add (r.length+1) 1) bytes) 1073741824&&Nat.ble (Nat.add (r.length+1) 1) 1073741824&&Nat.blt 0 bytes)=true:=(by simp_all);have hlen:(a9_ enc (b::r)).length=(r.length+1)*sz:=bw_ hw (b::r);have e3:a9_ enc (b::(r++[a]))=a9_ enc (b::r)++enc a:=by
   grind [dw_,a9_]
  have e4:(r++[a]).length+1=Nat.add (r.length+1) 1:=(by simp);simp only [bb_,hlen,true_and,decide_true,c1,List.cons_append,e3,e4]
theorem uq_ {sz bytes:Nat} (hw:∀a,(enc a).length=sz) (hsz:0<sz) (hb:0<bytes) (l l':List α) (hl:(l.length+l'.length)*bytes<=1073741824):(XOp.app sz bytes).run P [bb_ enc sz l,bb_ enc sz l']=some (bb_ enc sz (l++l')):=by
 have hl1:l.length+l'.length<=1073741824:=Nat.le_trans (Nat.le_mul_of_pos_right _ hb) hl;show (match by_ sz (bb_ enc sz l')with|some (n,l')=>iA_ sz bytes (bb_ enc sz l) n l'|none=>none)=_;have ha:by_ sz (bb_ enc sz l')=some (l'.length,a9_ enc l'):=by
  cases l' with
  |nil=>rfl
  |cons a r=>
   show (match ak_ ⟨hnil,0,0⟩ (.vsl (r.length+1) sz (a9_ enc (a::r))) (r.length+1) sz with|some l=>some (r.length+1,l)|none=>none)=_;have:ak_ ⟨hnil,0,0⟩ (.vsl (r.length+1) sz (a9_ enc (a::r))) (r.length+1) sz=some (a9_ enc (a::r)):=by
    show aX_ (Nat.mul (r.length+1) sz) _=_;have h:=cN_ (a9_ enc (a::r)) []
    grind [bw_]
   grind
 simp only [ha];unfold iA_;have hd:decide ((a9_ enc l').length=l'.length*sz)=true:=decide_eq_true (bw_ hw l');simp only [hd];cases l with
 |nil=>
  cases l' with
  |nil=>rfl
  |cons a r=>
   have c1:(Nat.ble (Nat.mul (a::r).length bytes) 1073741824&&Nat.ble (a::r).length 1073741824&&Nat.blt 0 bytes)=true:=by simp_all
   grind [bb_]
 |cons b q=>
  cases l' with
  |nil=>have hlen:(a9_ enc (b::q)).length=(q.length+1)*sz:=bw_ hw (b::q);simp only [bb_,List.length_nil,hlen,true_and,decide_true,List.append_nil]
  |cons a r=>
   have c1:(Nat.ble (Nat.mul (Nat.add (q.length+1) (r.length+1)) bytes) 1073741824&&Nat.ble (Nat.add (q.length+1) (r.length+1)) 1073741824&&Nat.blt 0 bytes)=true:=(by simp_all);have hlen:(a9_ enc (b::q)).length=(q.length+1)*sz:=bw_ hw (b::q);have e3:a9_ enc (b::(q++a::r))=a9_ enc (b::q)++a9_ enc (a::r):=by
    grind [dw_]
   have e4:(q++a::r).length+1=Nat.add (q.length+1) (r.length+1):=by
    grind
   simp only [bb_,List.length_cons,hlen,true_and,decide_true,c1,List.cons_append,e3,e4]
end
def jW_ {α:Type} (enc:α->List AV) (w:Nat) (l:List α):AV:=.vsl l.length w (a9_ enc l)
def SlV {α:Type} (enc:α->List AV) (w:Nat) (l:List α) (a:AV):Prop:=a=jW_ enc w l\/(l=[]/\a=.nsl)
section
variable {α:Type} {enc:α->List AV} {w:Nat}
theorem SlV.of (l:List α):SlV enc w l (bb_ enc w l):=by
 cases l with
 |nil=>exact .inr ⟨rfl,rfl⟩
 |cons a r=>exact .inl rfl
theorem SlV.v (l:List α):SlV enc w l (jW_ enc w l):=.inl rfl
theorem SlV.eq {l:List α} {a:AV} (h:SlV enc w l a) (hl:l≠[]):a=bb_ enc w l:=by
 rcases h with h|⟨h,_⟩
 .rw [h];cases l with
  |nil=>grind
  |cons a r=>rfl
 grind
theorem sQ_ (h:∀a,okL (enc a)=true) (l:List α):okC (jW_ enc w l)=true:=by
 grind [lm_,okC,jW_]
theorem SlV.ok {l:List α} {a:AV} (h:SlV enc w l a) (he:∀a,okL (enc a)=true):okC a=true:=by
 grind [sQ_,Go.Sx.okC,Go.Sx.SlV]
variable {P:Program} {t e:TypeId} {ti:TypeInfo}
theorem SlV.len {l:List α} {a:AV} (h:SlV enc w l a) (ht:P.underlying t=some (.slice e)):(XOp.len t).run P [a]=some (.int .i64 (l.length:Int)):=by
 rcases h with h|⟨h1,h⟩
 .subst h;show cJ_ P h0 t (.vsl l.length w (a9_ enc l))=_;grind [cJ_]
 .subst h h1;show cJ_ P h0 t .nsl=_;grind [cJ_]
theorem SlV.ia {l:List α} {a:AV} (h:SlV enc w l a) (ht:P.underlying t=some (.slice e)) (hi:P.info? e=some ti) (hs:ti.size=w) (hw:∀a,(enc a).length=w) {i:Nat} (hl:i<l.length) (k:IntKind):
  (XOp.iaddr t).run P [a,.int k (i:Int)]=some (.vptr (a9_ enc (l.drop i))):=by
 rw [h.eq (λe=>by grind)]
 grind [lS_]
theorem wn_ (ht:P.underlying t=some (.slice e)) (hi:P.info? e=some ti) (hs:ti.size=w) (hw:∀a,(enc a).length=w) {l:List α} {a:AV} (h:SlV enc w l a) {lo hi':Option AV} {i j:Nat} (hlo:bnd lo 0=some i) (hhi:bnd hi' l.length=some j) (hij:i<=j) (hj:j<=l.length):
  ∃r,cS_ a (aP_ P h0 t a lo hi')=some r/\SlV enc w ((l.take j).drop i) r:=by
 rcases h with h|⟨h1,h⟩
 .subst h;refine ⟨jW_ enc w ((l.take j).drop i),?_,.inl rfl⟩;show aP_ P h0 t (.vsl l.length w (a9_ enc l)) lo hi'=_;unfold aP_;have hb:(Nat.ble i j&&(Nat.ble j l.length&&Nat.beq w ti.size))=true:=by simp_all
  simp only [hlo,ht,hi,hhi,hb,aA_];have hlen:((l.take j).drop i).length=j-i:=(by grind);have e1:(a9_ enc l).drop (Nat.mul i w)=a9_ enc ((l.take j).drop i)++a9_ enc (l.drop j):=by
   grind [gT_,dw_,List.take_append_drop]
  have e2:aX_ (Nat.mul (Nat.sub j i) w) (a9_ enc ((l.take j).drop i)++a9_ enc (l.drop j))=some (a9_ enc ((l.take j).drop i)):=by
   grind [cN_,bw_]
  rw [e1,e2];show some (AV.vsl (Nat.sub j i) w _)=some (AV.vsl ((l.take j).drop i).length w _)
  grind
 .subst h h1;have hj0:j=0:=(by grind);have hi0:i=0:=(by omega);subst hj0 hi0;refine ⟨.nsl,?_,.inr ⟨rfl,rfl⟩⟩;show aP_ P h0 t .nsl lo hi'=_
  grind [aP_]
theorem SlV.arg {l:List α} {a:AV} (h:SlV enc w l a) (hw:∀a,(enc a).length=w):by_ w a=some (l.length,a9_ enc l):=by
 rcases h with h|⟨h1,h⟩
 .subst h;have:ak_ ⟨hnil,0,0⟩ (jW_ enc w l) l.length w=some (a9_ enc l):=by
   show aX_ (Nat.mul l.length w) (a9_ enc l)=_;have h:=cN_ (a9_ enc l) []
   grind [bw_]
  show (match ak_ ⟨hnil,0,0⟩ (jW_ enc w l) l.length w with|some q=>some (l.length,q)|none=>none)=_;rw [this]
 subst h h1;rfl
end
end Go.Sx
namespace Go.Sx
def ok_ (n:Nat):Bool:=decide (9218868437227405312<n%9223372036854775808)
theorem jx_ (n:Nat):(ok_ n=true/\∃s q,Ieee.double.read n=.nan s q)\/(ok_ n=false/\n%9223372036854775808=0/\∃s,Ieee.double.read n=.number s 0 Ieee.double.leastPlace)\/
  (ok_ n=false/\n%9223372036854775808≠0/\((∃s m i,0<m/\Ieee.double.leastPlace<=i/\Ieee.double.read n=.number s m i)\/∃s,Ieee.double.read n=.infinity s)):=by
 have e1:Ieee.double.signWeight=9223372036854775808:=rfl;have e2:Ieee.double.infRung=9218868437227405312:=rfl;have e3:Ieee.double.binade=4503599627370496:=rfl;unfold Ieee.Format.read ok_;simp only [e1,e2,e3];generalize n%9223372036854775808=r;by_cases h1:r<4503599627370496
 .rw [if_pos h1];by_cases h0:r=0;simp_all
  grind
 .rw [if_neg h1];by_cases h2:r<9218868437227405312
  .rw [if_pos h2]
   grind
  .rw [if_neg h2];by_cases h3:r=9218868437227405312;simp_all
   .rw [if_neg h3]
    grind
theorem nn_ {s:Bool} {m up:Nat} (h:0<m):Ieee.signed s m up≠0:=by
 have:0<m<<<up:=by simp_all
 grind [Ieee.signed]
theorem read_0:Ieee.double.read 0=.number false 0 Ieee.double.leastPlace:=rfl
theorem tx_ (n:Nat):(Ieee.double.order n 0==some .eq)=decide (n%9223372036854775808=0):=by
 unfold Ieee.Format.order;rw [read_0];rcases jx_ n with ⟨h,s,q,e⟩|⟨_,h,s,e⟩|⟨_,h,⟨s,m,i,hm,hi,e⟩|⟨s,e⟩⟩
 .grind [ok_,Ieee.Datum.order]
 all_goals grind [Ieee.Datum.order,nn_,Ieee.signed]
theorem op_ (n:Nat):(Ieee.double.order n n==some .eq)= !ok_ n:=by
 unfold Ieee.Format.order;rcases jx_ n with ⟨h,s,q,e⟩|⟨h,_,s,e⟩|⟨h,_,⟨s,m,i,hm,hi,e⟩|⟨s,e⟩⟩
 .grind [Ieee.Datum.order]
 .grind [Ieee.Datum.order]
 .simp only [Ieee.Datum.order]
  grind
 grind [Ieee.Datum.order]
theorem vY_ (P:Program) (t:TypeId) (cx cy:Bool) (n:Nat):(XOp.bin .eql t cx cy).run P [.flt .f64 n,.flt .f64 0]=some (.bool (decide (n%9223372036854775808=0))):=by show some (AV.bool (Ieee.double.order n 0==some .eq))=_;rw [tx_]
theorem vu_ (P:Program) (t:TypeId) (cx cy:Bool) (n:Nat):(XOp.bin .neq t cx cy).run P [.flt .f64 n,.flt .f64 n]=some (.bool (ok_ n)):=by show some (AV.bool (!(Ieee.double.order n n==some .eq)))=_;rw [op_,Bool.not_not]
section
variable {P:Program} {t:TypeId}
theorem o1_ (a b:List UInt8):eqB a b=decide (a=b):=by
 by_cases h:a=b;simp_all [ea_]
 simp_all [ea_]
theorem wj_ (cx cy:Bool) (a b:List UInt8):(XOp.bin .eql t cx cy).run P [.str a,.str b]=some (.bool (decide (a=b))):=by show some (AV.bool (eqB a b))=_;rw [o1_]
theorem wk_ (cx cy:Bool) (a b:List UInt8):(XOp.bin .neq t cx cy).run P [.str a,.str b]=some (.bool (!decide (a=b))):=by show some (AV.bool (not (eqB a b)))=_;rw [o1_]
theorem ur_ {s d:TypeId} {ds:TypeDesc} {k j:IntKind} (hs:P.underlying s=some ds) (hd:P.underlying d=some (.int k)) (n:Int):(XOp.conv s d).run P [.int j n]=some (.int k (k.wrap n)):=by
 show b3_ P h0 s d (.int j n)=_
 grind [b3_,fj_,cA_,cp_]
end
section
variable [Gl]
def vb_ (P:Program) (fuel:Nat) (c:VC) (f:FuncId) (ft:FT) (args:List AV) (H:AHeap) (n:Nat):VT:=match P.funcs[f]? with
 |some fn=>match fn.body with
  |some cd=>match Nat.ble (aL_ args) fn.ntmps&&(Nat.ble fn.ntmps 512&&Nat.beq c.k ft.k)with
   |true=>cu_ P fn.ntmps fuel (inN P fuel 12) c 0 cd ⟨aT_ args 0 tnil,H,n,0,[]⟩ (hv_ P fuel (inN P fuel 12) c fn.results.toList ft none) (uv_ P fuel (inN P fuel 12) c fn.results.toList ft)
   |false=>.bad
  |none=>.bad
 |none=>.bad
end
section
variable [Gl] {P:Program} {c:VC} {fuel:Nat}
theorem FEndW.callO {ft:FT} {R:Nat->List AV->Prop} {Y0 Y:Sy} {f:FuncId} {args:List AV} {H:AHeap} (h:SemCallF P ft.k Y f args H (FEndW P ft R Y0)):SemCallF P ft.k Y f args H (pZ_ ft (Nat.add 64 ft.ent.nv) Y0 R):=λB pr E w vs hy hg hr hcon=>
 Calls.mono (h B pr E w vs hy hg hr hcon) λe w' he=>by
  obtain ⟨Y',r,⟨b,a,H',j,ws,tp,rfl,h1,h2,h3,h4,hw⟩,E',hle,hy',hres⟩:=he;have hend:∃u,e=(match b with
    |true=>.panicked [{ v:=u,recovered:=false }]
    |false=>.returned u)/\Con E' a u/\Rel B pr E' H' w':=by
   grind
  obtain ⟨u,he,hcu,hr'⟩:=hend;have hgl:GlOk E':=hg.leF hle
  let ac:Act:={ tmps:= #[u],defers:=[] }
  have st:St P B pr 1 E' (dL_ topq 0 a) H' [] ac w':=⟨⟨rfl,by omega,λt ht=>by
   by_cases e:0=t;subst e;exact hcu
   grind [ap_,ca_,Con],hgl⟩,hr',rfl⟩
  obtain ⟨E2,hle2,hy2,st2⟩:=hw 1 B pr E' ac w' hy' st;have hcu2:=st2.t.con 0 (by omega);refine ⟨_,_,⟨j,ws,b,tp,h1,h2,h3,h4,rfl,rfl⟩,E2,hle.trans hle2,hy2,?_⟩;cases b with
  |true=>exact ⟨u,he,hcu2,st2.r⟩
  |false=>exact ⟨u,he,hcu2,st2.r⟩
theorem tW_ (hm:P.follows .mixedOrders=true) (hc:an_ P (aM_ P fuel)) {f:FuncId} {ft:FT} {R:Nat->List AV->Prop} {Y0 Y:Sy} {args:List AV} {H:AHeap} {n:Nat} (hf0:Fresh Y0 (Nat.add 64 ft.ent.nv)) (hf:Good P c n Y) (hx0:Ext (Nat.add 64 ft.ent.nv) Y0 Y) (hn0:Nat.add 64 ft.ent.nv<=n) (h:VOK P (QF R) [] Y (vb_ P fuel c f ft args H n)):
  SemCallF P ft.k Y f args H (pZ_ ft (Nat.add 64 ft.ent.nv) Y0 R):=by
 unfold vb_ at h;split at h
 .rename_i fn hfn;split at h
  .rename_i cd hb;split at h
   .rename_i hle;obtain ⟨h1,hle⟩:=aa_ hle;obtain ⟨h2,h3⟩:=aa_ hle;have h1:args.length<=fn.ntmps:=(by grind [ai_,Nat.ble_eq]);have h2:fn.ntmps<=512:=(by simp_all);have h3:=Nat.eq_of_beq_eq_true h3;have fin:∀u L Y' S,L.length=S.lv->Good P c S.n Y'->Nat.add 64 ft.ent.nv<=S.n->Ext (Nat.add 64 ft.ent.nv) Y0 Y'->VOK P (QF R) L Y' (hv_ P fuel (inN P fuel 12) c fn.results.toList ft u S)->dq_ P c.k fn (FEndW P ft R Y0) Y' S.T S.H S.D u:=by
     intro u L Y' S hL hg hn hx h;refine fD_ hm hc hL hg h λr n' lv' L' Y2 _ _ _ hx2 _ h=>?_;have hx:=hx.trans hx2 hn;cases r with
     |ret a H=>obtain ⟨j,ws,tp,q1,q2,q3,q4,q5⟩:=fC_ (a:=a) rfl rfl hf0 hx ft.exs 0 (λj q hj=>by grind) h;exact ⟨false,a,H,j,ws,tp,rfl,q1,q2,q3,q4,q5⟩
     |pan a H=>obtain ⟨j,ws,tp,q1,q2,q3,q4,q5⟩:=fC_ (a:=a) rfl rfl hf0 hx ft.exs 0 (λj q hj=>by grind) h;exact ⟨true,a,H,j,ws,tp,rfl,q1,q2,q3,q4,q5⟩
    refine FEndW.callO ?_;rw [←h3];refine jX_ hm hfn hb ⟨h1,h2,as_ cd (λY' T' H' D' hk=>?_) (λY' r hx=>?_) _ _ _ _ (bF_ hm hc cd 0 ⟨aT_ args 0 tnil,H,n,0,[]⟩ _ _ Y [] rfl hf h)⟩;obtain ⟨n',lv,L',_,q2,q3,hx,q5,h'⟩:=hk;exact fin none L' Y' ⟨T',H',n',lv,D'⟩ q2 q5 (Nat.le_trans hn0 q3) (hx0.trans hx hn0) h'
    .cases r with
     |norm T H D=>exact hx.elim
     |pan v T H D=>obtain ⟨n',lv,L',_,q2,q3,hx,q5,h'⟩:=hx;exact fin (some v) L' Y' ⟨T,H,n',lv,D⟩ q2 q5 (Nat.le_trans hn0 q3) (hx0.trans hx hn0) h'
     |exit id T H D=>obtain ⟨n',lv,L',_,_,_,_,_,h'⟩:=hx;exact h'.elim
     |ret T H D=>obtain ⟨n',lv,L',_,q2,q3,hx,q5,h'⟩:=hx;exact fin none L' Y' ⟨T,H,n',lv,D⟩ q2 q5 (Nat.le_trans hn0 q3) (hx0.trans hx hn0) h'
   exact h.elim
  exact h.elim
 exact h.elim
theorem wa_ (hm:P.follows .mixedOrders=true) (ho:j0_ P) {f:FuncId} {ft:FT} {vs ex args:List AV} {H:AHeap} {n1 n:Nat} {R:Nat->List AV->Prop} {t:VT} (hlen:vs.length=ft.ent.nv) (hk:∀Y,KnownF P c.fc Y) (hn:64+ft.ent.nv+ex.length=n1)
  (hopen:∀(B:World) (pr:Nat->Prop) (E:Env) (w:World) (us:List Value),(∀(i:Nat) (a:AV),vs[i]? =some a->E.sy (64+i)=some a)->(∀(i:Nat) (a:AV),ex[i]? =some a->E.sy (64+ft.ent.nv+i)=some a)->Rel B pr E (ft.ent.heap 64) w->ConL E (bu_ 64 (cv_ ft.ent.slots)) us->Rel B pr E H w/\ConL E args us)
  (ht:vb_ P n c f ft args H n1=t) (h:∀Y,Fresh Y 64->Gl.gt Y.v->VOK P (QF R) [] ((Y.puts 64 vs).puts (64+ft.ent.nv) ex) t):CF P f ft vs R:=
 ⟨hlen,λY hf B pr E w us hy hg hr hcon=>by obtain ⟨p1,p2,p3,p4⟩:=hf.puts vs;have hat:=bB_ vs hf;rw [hlen]at p1;obtain ⟨q1,q2,q3,q4⟩:=p1.puts ex;have hae:=bB_ ex p1;have hgt:Gl.gt Y.v:=Gl.gtm _ _ (λi hi=>by rw [hy.v];grind) hg.2;have hv:∀i a,E.sy i=some a->((Y.puts 64 vs).puts (64+ft.ent.nv) ex).v i=some a:=λi a ha=>(by rw [hy.v]at ha;grind);have hl:∀i l,E.syl i=some l->((Y.puts 64 vs).puts (64+ft.ent.nv) ex).l i=some l:=λi l ha=>(by rw [hy.l]at ha;grind);have hle:E.leF ft.k (E.with ((Y.puts 64 vs).puts (64+ft.ent.nv) ex)):=Env.with_leF ft.k λi hi=>(by rw [hy.v];exact q4 i hi);have hx:Ext (Nat.add 64 ft.ent.nv) (Y.puts 64 vs) ((Y.puts 64 vs).puts (64+ft.ent.nv) ex):=Ext.puts ex _ (Nat.le_refl _);have hr1:=hr.with hv hl;have hc1:=hcon.with hv hl;obtain ⟨hr2,hc2⟩:=hopen B pr (E.with ((Y.puts 64 vs).puts (64+ft.ent.nv) ex)) w us (λi a ha=>q2 _ _ (hat i a ha)) (λi a ha=>hae i a ha) hr1 hc1;have hsem:=tW_ (c:=c) (fuel:=n) (R:=R) (args:=args) (H:=H) (n:=n1) hm (cd_ hm ho n) p1 ⟨by grind,hk _⟩ hx (by grind) (by rw [ht];grind);refine Calls.mono (hsem B pr (E.with ((Y.puts 64 vs).puts (64+ft.ent.nv) ex)) w us ⟨rfl,rfl,hy.res⟩ (hg.leF hle) hr2 hc2) λe w' he=>?_;obtain ⟨Y',r,h1,E',h2,h3⟩:=he;exact ⟨Y',r,h1,E',hle.trans h2,h3⟩⟩
omit [Gl]in
theorem vt_ {E:Env} {i:Nat} {k:IntKind} {n:Int} (hi:E.sy i=some (.int k n)) {v:Value} (h:Con E (.sym i) v):Con E (.int k n) v:=by
 grind [Con,Con0]
end
theorem tA_ {P:Program} {k:IntKind} {x c:Int} (hc:c≠0) (t:TypeId) (cx cy:Bool):bI_ P .quo t cx cy (.int k x) (.int k c)=some (.int k (k.wrap (x.tdiv c))):=by show cg_ P .quo k x k c=_;have hb:Nat.beq (kix k) (kix k)=true:=Nat.beq_refl _;unfold cg_;rw [hb];unfold gW_;simp only [binOp,Op.intDiv,hc,ne_eq,not_true_eq_false,if_false];rfl
section
variable {P:Program}
theorem wm_ {k:IntKind} {x c:Int} (hc:c≠0) (t:TypeId) (cx cy:Bool):(XOp.bin .quo t cx cy).run P [.int k x,.int k c]=some (.int k (k.wrap (x.tdiv c))):=tA_ hc t cx cy
theorem vZ_ {k:IntKind} {x c:Int} (hc:c≠0) (t:TypeId) (cx cy:Bool):(XOp.bin .rem t cx cy).run P [.int k x,.int k c]=some (.int k (x.tmod c)):=tE_ hc rfl t cx cy
end
def fv (o:Option Nat):AV:=mkF .f64 o
theorem wO_ (o:Option Nat):okC (fv o)=true:=by cases o<;>rfl
theorem up_ {P:Program} {g:Nat} {l:List (FuncId×List AV×AV)} {rd:RD} {f:FuncId} {args:List AV} {v:AV} (hp: @iu_ (eN_ g l rd) P f args v) (w:World) (ps:List MemPlace) {vs:List Value} {m:Int}
  (hw:w.cell? ⟨g,0,none⟩=some (.int .i64 m)) (hn:cl_ args=true) (hc:ConL (fI_ (ew_ w (.cell g 0::ps))) args vs):
  Calls P f ⟨vs⟩ w λe w'=>(∃E u,e=.returned u/\Con E v u)/\GrownB w w':=by
 let E:Env:={ fI_ (ew_ w (.cell g 0::ps))with sy:=λi=>if i=0 then some (.int .i64 m)else none }
 have hr:Rel w (λb=>b<w.heap.size) E H0 w:={
  own:=⟨λ_=>none,λid k hk=>(lD_ hk).elim,λ_ _=>rfl,λ_ _ _ _=>rfl⟩
  imm:=te_ w _
  ib:=λ_ _ _ _ h=>h
  fresh:=λ_ _ _=>rfl
  resv:=λ_ h=>h.elim
  vds:=λ_ h=>h.elim
  szs:=λ_ _ h=>by cases h
  prot:=λb h=>⟨h,rfl⟩
  size:=Nat.le_refl _
  os:=rfl
  output:=rfl }
 have hg: @GlOk (eN_ g l rd) E:=by
  refine ⟨λi=>?_,m,rfl,λi _ hn=>by grind⟩;show Con E (glI g i) _;unfold glI;split
  .rename_i hb;have:=Nat.eq_of_beq_eq_true hb;subst this;refine ⟨i,0,[.int .i64 m],rfl,⟨_,_,rfl,⟨.int .i64 m,rfl,rfl,by simp [Con0]⟩,rfl⟩,λj v hv=>?_⟩;cases j with
   |zero=>show ew_ w (.cell i 0::ps) i (0+0)=_;simp_all [ew_]
   |succ j=>simp at hv
  simp [Con]
 refine Calls.mono (hp H0 w (λb=>b<w.heap.size) E w vs hg hr (bK_ (E:=fI_ (ew_ w (.cell g 0::ps))) (E':=E) (λ_ _ _ h=>h) (λi a _ h=>by cases h) hn hc)) λe w' he=>?_;obtain ⟨E',_,u,rfl,h1,h2⟩:=he;exact ⟨⟨E',u,rfl,h1⟩,rB_ h2.size (λb hb=>(h2.prot b hb).2) h2.os h2.output⟩
end Go.Sx
