/-
  What operations give at values of known forms; a call of symbols, by its tree.
-/
import Derived.Test.YtelnbodnjmldeaaGreatSyP
import Derived.Test.YtelnbodnjmldeaaGreatSyM
import Derived.Test.YtelnbodnjmldeaaGreatSyD
set_option linter.unusedVariables false
set_option linter.unusedSimpArgs false
namespace Go.Sx
theorem vK_ (Y:Sy) (n:Nat) (a:AV) (i:Nat):(Y.put n a).v i=if i=n then some a else Y.v i:=rfl
section
variable (P:Program) (t:TypeId) (cx cy:Bool) (k:IntKind) (a b:Int)
theorem kix_self:Nat.beq (kix k) (kix k)=true:=Nat.beq_refl _
theorem dk_ {op:BinOp} {r:AV} (h:dz_ op k a b=some r):(XOp.bin op t cx cy).run P [.int k a,.int k b]=some r:=by
 show dX_ P op k a k b=some r
 grind [dX_,kix_self]
theorem run_lss:(XOp.bin .lss t cx cy).run P [.int k a,.int k b]=some (.bool (decide (a<b))):=dk_ P t cx cy k a b (by grind [iL_,dz_])
theorem run_gtr:(XOp.bin .gtr t cx cy).run P [.int k a,.int k b]=some (.bool (decide (b<a))):=dk_ P t cx cy k a b (by grind [iL_,dz_])
theorem run_leq:(XOp.bin .leq t cx cy).run P [.int k a,.int k b]=some (.bool (decide (a<=b))):=dk_ P t cx cy k a b (by grind [iL_,dz_])
theorem run_geq:(XOp.bin .geq t cx cy).run P [.int k a,.int k b]=some (.bool (decide (b<=a))):=dk_ P t cx cy k a b (by grind [iL_,dz_])
theorem run_eql:(XOp.bin .eql t cx cy).run P [.int k a,.int k b]=some (.bool (decide (a=b))):=dk_ P t cx cy k a b (by grind [fB_,dz_])
theorem run_neq:(XOp.bin .neq t cx cy).run P [.int k a,.int k b]=some (.bool (!decide (a=b))):=dk_ P t cx cy k a b (by grind [fB_,dz_])
theorem run_add:(XOp.bin .add t cx cy).run P [.int k a,.int k b]=some (.int k (k.wrap (a+b))):=dk_ P t cx cy k a b (by grind [d2_,dP_,dz_])
theorem run_sub:(XOp.bin .sub t cx cy).run P [.int k a,.int k b]=some (.int k (k.wrap (a-b))):=dk_ P t cx cy k a b (by grind [d2_,dP_,dz_])
theorem vj_ (x:Bool):(XOp.un .not).run P [.bool x]=some (.bool (!x)):=rfl
variable {P t}
end
theorem vE_ {x:Int} (h1: -9223372036854775808<=x) (h2:x<=9223372036854775807):IntKind.i64.wrap x=x:=by simp [IntKind.wrap,IntKind.bits,IntKind.signed];omega
variable [Gl]
theorem va_ {P:Program} (hm:P.follows .mixedOrders=true) (ho:lA_ P) {f:FuncId} {ft:FT} {vs:List AV} {R:Nat->List AV->Prop} {c:VC} {n:Nat} {t:VT} (hlen:vs.length=ft.ent.nv) (hk:∀Y,Fresh Y 64->KnownF P c.fc (Y.puts 64 vs))
  (ht:u1_ P n c f ft=t) (h:∀Y,Fresh Y 64->Gl.gt Y.v->VOK P (QF R) [] (Y.puts 64 vs) t):CF P f ft vs R:=
 ⟨hlen,λY hf B pr E w us hy hg hr hcon=>by obtain ⟨p1,_,_,p4⟩:=hf.puts vs;rw [hlen]at p1;have hgt:Gl.gt Y.v:=Gl.gtm _ _ (λi hi=>by rw [hy.v];grind) hg.2;exact s5_ (c:=c) (fuel:=n) hm (dv_ hm ho n) ⟨p1,hk Y hf⟩ (by grind) B pr E w us hy hg hr hcon⟩
end Go.Sx
namespace Go.Sx
section
variable [Gl] {P:Program} {Q:AV->Prop} {L:List (Nat->List AV->Prop)} {Y:Sy}
theorem VOK_lt {op:XOp} {args:List AV} {n:Nat} {t:VT} {r:AV} (h1:op.run P (ab_ Y.v args)=some r) (h2:okC r=true) (h3:VOK P Q L (Y.put n r) t):VOK P Q L Y (.lt op args n none t):=⟨r,h1,h2,h3⟩
theorem u9_ {op:XOp} {args:List AV} {n k:Nat} {t:VT} {cs:List AV} (h1:op.run P (ab_ Y.v args)=some (.agg cs)) (hl:cs.length=k) (h2:okL cs=true) (h3:VOK P Q L (Y.puts n cs) t):VOK P Q L Y (.lt op args n (some k) t):=⟨cs,h1,hl,h2,h3⟩
theorem u8_ {i:Nat} {a b:VT} {t:Bool} (h:Y.v i=some (.bool t)) (h1:t=true->VOK P Q L Y a) (h2:t=false->VOK P Q L Y b):VOK P Q L Y (.ite i a b):=⟨t,h,h1,h2⟩
theorem uv_ {f:FuncId} {args:List AV} {n:Nat} {sh:List (Option Nat)} {t:VT} {v:AV} {vs:List AV} (h1:jw_ P f (ab_ Y.v args) v) (h2:hn_ sh v=some vs) (h3:okL vs=true) (h4:VOK P Q L (Y.puts n vs) t):VOK P Q L Y (.call f args n sh t):=
 ⟨v,vs,h1,h2,h3,h4⟩
theorem u7_ {k:Chk} {t:VT} (h:k.ok Y) (h1:VOK P Q L Y t):VOK P Q L Y (.chk k t):=⟨h,h1⟩
theorem um_ {f:FuncId} {ft:FT} {hv:List AV} {n:Nat} {bs:VTs} {R:Nat->List AV->Prop} (h1:CF P f ft (ab_ Y.v hv) R) (h2:okL (ab_ Y.v hv)=true) (h3:sb_ P Q R L (Y.puts n (ab_ Y.v hv)) (Nat.add n ft.ent.nv) 0 bs):VOK P Q L Y (.callF f ft hv n bs):=⟨R,h1,h2,h3⟩
theorem VOK_fin {R:Nat->List AV->Prop} {j:Nat} {hv:List AV} (h1:okL (ab_ Y.v hv)=true) (h:R j (ab_ Y.v hv)):VOK P (QF R) L Y (.done (.tup (.int .i64 (.ofNat j)::hv))):=⟨j,_,rfl,h1,h⟩
theorem uw_ {v:AV} (h:Q (den Y.v v)):VOK P Q L Y (.done v):=h
theorem ul_ {lvl j:Nat} {hv:List AV} {R:Nat->List AV->Prop} (h1:L[lvl]? =some R) (h2:R j (ab_ Y.v hv)):VOK P Q L Y (.again lvl j hv):=⟨R,h1,h2⟩
open Classical in
theorem ux_ {ι:Type} (st:ι->List AV) (p:ι->Prop) (μ:ι->Nat) (i0:ι) (h0:p i0) {n nv:Nat} {hv:List AV} {t:VT} (he:ab_ Y.v hv=st i0) (hok:∀i,p i->okL (st i)=true)
  (hμ:∀i j,p i->p j->st i=st j->μ i=μ j) (hb:∀i,p i->VOK P Q (L++[λ_ vs=>∃i',p i'/\vs=st i'/\μ i'<μ i]) (Y.puts n (st i)) t):VOK P Q L Y (.loop n 0 hv (.cons nv t .nil)):=by
 let m:List AV->Nat:=λvs=>if h:∃i,p i/\vs=st i then μ (Classical.choose h)else 0
 have hm:∀i,p i->m (st i)=μ i:=λi hi=>by
  have h:∃j,p j/\st i=st j:=⟨i,hi,rfl⟩
  grind
 refine ⟨λ_ vs=>∃i,p i/\vs=st i,λ_ vs=>m vs,λj vs ⟨i,h1,h2⟩=>by grind,⟨i0,h0,he⟩,λvs hvs hI=>?_,trivial⟩;obtain ⟨i,h1,h2⟩:=hI;subst h2;have e:(λ(_:Nat) (vs':List AV)=>(∃i',p i'/\vs'=st i')/\m vs'<m (st i))=λ_ vs'=>∃i',p i'/\vs'=st i'/\μ i'<μ i:=by
  funext _ vs'
  refine propext ⟨λh=>?_,λh=>?_⟩
  .grind
  .obtain ⟨i',g1,g2,g3⟩:=h;subst g2
   grind
 grind
end
theorem g2_:∀(n:Nat) (sh:List (Option Nat)),ad_ (bZ_ n sh)=true
 |_,[]=>rfl
 |n,none::s=>by simp only [bZ_,ad_,ae_];exact g2_ _ s
 |n,some m::s=>by simp only [bZ_,ad_,ae_,hy_];exact g2_ _ s
theorem gH_:∀{sh:List (Option Nat)} {l vs:List AV},flat sh l=some vs->okL vs=true->mB_ l=true
 |[],[],vs,h,_=>rfl
 |none::s,a::r,vs,h,hok=>by unfold flat at h;split at h;rename_i l' hl;cases h;rw [aX_]at hok;obtain ⟨k1,k2⟩:=aa_ hok;simp only [mB_,sH_ k1,gH_ hl k2];cases h
 |some m::s,a::r,vs,h,hok=>by have ha:∃cs,a=.agg cs:=(by cases a<;>first|exact ⟨_,rfl⟩|(cases h));obtain ⟨cs,rfl⟩:=ha;simp only [flat]at h;split at h;split at h;rename_i l' hl;cases h;obtain ⟨k1,k2⟩:=fH_ hok;simp only [mB_,okI,k1,gH_ hl k2];cases h;cases h
 |[],_::_,vs,h,_=>by cases h
 |none::_,[],vs,h,_=>by cases h
 |some _::_,[],vs,h,_=>by cases h
theorem fz_ {s:Nat->Option AV}:∀(sh:List (Option Nat)) (n:Nat) (l vs:List AV),flat sh l=some vs->(∀i a,vs[i]? =some a->s (n+i)=some a)->ab_ s (bZ_ n sh)=l
 |[],n,[],vs,h,_=>rfl
 |none::sh,n,a::r,vs,h,hs=>by
  unfold flat at h;split at h
  .rename_i l' hl;cases h;have h0:s n=some a:=(by simpa using hs 0 a rfl);simp only [bZ_,ab_,den,h0];rw [fz_ sh (n+1) r l' hl λi b hb=>by
    have:=hs (i+1) b (by grind)
    grind]
  cases h
 |some m::sh,n,a::r,vs,h,hs=>by
  have ha:∃cs,a=.agg cs:=(by cases a<;>first|exact ⟨_,rfl⟩|(cases h));obtain ⟨cs,rfl⟩:=ha;simp only [flat]at h;split at h
  .rename_i hd;have hd:cs.length=m:=of_decide_eq_true hd;subst hd;split at h
   .rename_i l' hl;cases h;show AV.agg (ab_ s (aj_ n cs.length))::ab_ s (bZ_ (n+cs.length) sh)=_;rw [fz_ sh (n+cs.length) r l' hl λi b hb=>by
     have:=hs (cs.length+i) b (by grind)
     grind]
    rw [den_symsL n cs λi b hb=>hs i b (by
     grind)]
   cases h
  cases h
 |[],_,_::_,vs,h,_=>by cases h
 |none::_,_,[],vs,h,_=>by cases h
 |some _::_,_,[],vs,h,_=>by cases h
where
 den_symsL {s:Nat->Option AV}:∀(n:Nat) (cs:List AV),(∀i a,cs[i]? =some a->s (n+i)=some a)->ab_ s (aj_ n cs.length)=cs
 |n,[],_=>rfl
 |n,a::r,h=>by
  have h0:s n=some a:=(by simpa using h 0 a rfl);simp only [List.length_cons,aj_,ab_,den,h0];rw [den_symsL (n+1) r λi b hb=>by
   have:=h (i+1) b (by grind)
   grind]
theorem t0_ [Gl] {P:Program} (hm:P.follows .mixedOrders=true) (ho:lA_ P) {f:FuncId} {args ls:List AV} {sh:List (Option Nat)} {v:AV} {c:VC} {n m:Nat} {t:VT} (hfl:flat sh args=some ls) (hls:okL ls=true) (hv:aW_ v=true)
  (hk:∀Y,Fresh Y 64->KnownF P c.fc (Y.puts 64 ls)) (hm':64+dm_ sh=m) (ht:vFn P n c f (bZ_ 64 sh) m=t) (h:∀Y,Fresh Y 64->Gl.gt Y.v->VOK P (· =v) [] (Y.puts 64 ls) t):jw_ P f args v:=
 pure_sym (args':=bZ_ 64 sh) (gH_ hfl hls) hv (g2_ _ _) hls (λY hf=>fz_ sh 64 args ls hfl λi a ha=>bV_ ls hf i a ha) λY hf hg=>
  (r0_ (c:=c) (n:=m) hm (dv_ hm ho n) ⟨by have:=(hf.puts ls).1;grind [f7_],hk Y hf⟩ (by grind)).low
theorem uR_ [Gl] {P:Program} (hm:P.follows .mixedOrders=true) (ho:lA_ P) {f:FuncId} {args args' ls:List AV} {v:AV} {c:VC} {n m:Nat} {t:VT} (hok:mB_ args=true) (hso:ad_ args'=true) (hls:okL ls=true) (hv:aW_ v=true)
  (hden:∀Y,Fresh Y 64->ab_ (Y.puts 64 ls).v args'=args) (hk:∀Y,Fresh Y 64->KnownF P c.fc (Y.puts 64 ls)) (hm':64+ls.length=m) (ht:vFn P n c f args' m=t) (h:∀Y,Fresh Y 64->Gl.gt Y.v->VOK P (· =v) [] (Y.puts 64 ls) t):jw_ P f args v:=
 pure_sym (args':=args') hok hv hso hls hden λY hf hg=>
  (r0_ (c:=c) (n:=m) hm (dv_ hm ho n) ⟨by have:=(hf.puts ls).1;grind,hk Y hf⟩ (by grind)).low
theorem vu_ [Gl] {P:Program} (Y:Sy):KnownF P ⟨[],[]⟩ Y:=⟨λf h=>(List.not_mem_nil h).elim,λf h=>(List.not_mem_nil h).elim⟩
def bA_ {α:Type} (enc:α->List AV):List α->List AV
 |[]=>[]
 |a::r=>enc a++bA_ enc r
def a3_ {α:Type} (enc:α->List AV) (w:Nat) (l:List α):AV:=match l with
 |[]=>.nsl
 |a::r=>.vsl (r.length+1) w (bA_ enc (a::r))
section
variable {α:Type} {enc:α->List AV} {w:Nat}
theorem ev_:∀a b:List α,bA_ enc (a++b)=bA_ enc a++bA_ enc b
 |[],b=>rfl
 |x::r,b=>by simp only [List.cons_append,bA_,ev_ r b,List.append_assoc]
theorem b0_ (hw:∀a,(enc a).length=w):∀l:List α,(bA_ enc l).length=l.length*w
 |[]=>by simp [bA_]
 |a::r=>by simp only [bA_,List.length_append,hw,b0_ hw r,List.length_cons,Nat.add_mul];omega
theorem j3_ (hw:∀a,(enc a).length=w):∀(l:List α) (i:Nat),(bA_ enc l).drop (i*w)=bA_ enc (l.drop i)
 |l,0=>by simp
 |[],i+1=>by simp [bA_]
 |a::r,i+1=>by simp only [bA_,List.drop_succ_cons];rw [←j3_ hw r i,Nat.add_mul,Nat.one_mul,Nat.add_comm,←List.drop_drop,List.drop_left' (hw a)]
theorem kP_ (h:∀a,okL (enc a)=true):∀l:List α,okL (bA_ enc l)=true
 |[]=>rfl
 |a::r=>okL_join (h a) (kP_ h r)
where
 okL_join:∀{a b:List AV},okL a=true->okL b=true->okL (a++b)=true
 |[],b,_,h=>h
 |x::r,b,h1,h2=>by rw [aX_]at h1;obtain ⟨k1,k2⟩:=aa_ h1;rw [List.cons_append,aX_,k1,okL_join k2 h2];rfl
theorem t8_ (h:∀a,okL (enc a)=true) (l:List α):okC (a3_ enc w l)=true:=by
 cases l with
 |nil=>rfl
 |cons a r=>exact kP_ h (a::r)
mutual
theorem pZ_:∀{a:AV},okC a=true->aW_ a=true
 | .opq,h=>by simp [okC]at h
 | .bool _,_=>rfl
 | .int _ _,_=>rfl
 | .flt _ _,_=>rfl
 | .nan _,_=>rfl
 | .str _,_=>rfl
 | .nptr,_=>rfl
 | .ptr _ _,h=>by simp [okC]at h
 | .vptr cs,h=>by simp only [okC]at h;simp only [aW_];exact b2_ h
 | .nsl,_=>rfl
 | .sl ..,h=>by simp [okC]at h
 | .vsl _ _ cs,h=>by simp only [okC]at h;simp only [aW_];exact b2_ h
 | .nmap,_=>rfl
 | .map _,h=>by simp [okC]at h
 | .nfn,_=>rfl
 | .fn _ cs,h=>by simp only [okC]at h;simp only [aW_];exact b2_ h
 | .nif,_=>rfl
 | .iface _ a,h=>by simp only [okC]at h;simp only [aW_];exact kn_ h
 | .agg _,h=>by simp [okC]at h
 | .tup _,h=>by simp [okC]at h
 | .sym _,h=>by simp [okC]at h
 | .slx ..,h=>by simp [okC]at h
 | .ptx ..,h=>by simp [okC]at h
theorem kn_:∀{a:AV},okI a=true->aW_ a=true
 | .opq,h=>by simp [okI]at h
 | .bool _,_=>rfl
 | .int _ _,_=>rfl
 | .flt _ _,_=>rfl
 | .nan _,_=>rfl
 | .str _,_=>rfl
 | .nptr,_=>rfl
 | .ptr _ _,h=>by simp [okI]at h
 | .vptr cs,h=>by simp only [okI]at h;simp only [aW_];exact b2_ h
 | .nsl,_=>rfl
 | .sl ..,h=>by simp [okI]at h
 | .vsl _ _ cs,h=>by simp only [okI]at h;simp only [aW_];exact b2_ h
 | .nmap,_=>rfl
 | .map _,h=>by simp [okI]at h
 | .nfn,_=>rfl
 | .fn _ cs,h=>by simp only [okI]at h;simp only [aW_];exact b2_ h
 | .nif,_=>rfl
 | .iface _ a,h=>by simp only [okI]at h;simp only [aW_];exact kn_ h
 | .agg cs,h=>by simp only [okI]at h;simp only [aW_];exact b2_ h
 | .tup _,h=>by simp [okI]at h
 | .sym _,h=>by simp [okI]at h
 | .slx ..,h=>by simp [okI]at h
 | .ptx ..,h=>by simp [okI]at h
theorem b2_:∀{l:List AV},okL l=true->cC_ l=true
 |[],_=>rfl
 |a::r,h=>by rw [aX_]at h;obtain ⟨h1,h2⟩:=aa_ h;simp only [cC_,pZ_ h1,b2_ h2]
end
variable {P:Program} {t e:TypeId} {ti:TypeInfo}
theorem t5_ (ht:P.underlying t=some (.slice e)) (l:List α):(XOp.len t).run P [a3_ enc w l]=some (.int .i64 (l.length:Int)):=by
 cases l with
 |nil=>show b8_ P h0 t .nsl=_;grind [b8_]
 |cons a r=>show b8_ P h0 t (.vsl (r.length+1) w (bA_ enc (a::r)))=_;grind [b8_]
theorem run_iaddr_sl (ht:P.underlying t=some (.slice e)) (hi:P.info? e=some ti) (hs:ti.size=w) (hw:∀a,(enc a).length=w) {l:List α} {i:Nat} (h:i<l.length) (k:IntKind):
  (XOp.iaddr t).run P [a3_ enc w l,.int k (i:Int)]=some (.vptr (bA_ enc (l.drop i))):=by
 cases l with
 |nil=>simp at h
 |cons a r=>
  show aR_ P t (.vsl (r.length+1) w _) (.int k (.ofNat i))=_;unfold aR_;have hb:Nat.blt i (r.length+1)=true:=(by simp_all);simp only [ht,hi,idx,hb,hs,aB_]
  grind [j3_]
theorem eT_:∀(a b:List AV),aZ_ a.length (a++b)=some a
 |[],b=>rfl
 |x::r,b=>by simp only [List.length_cons,List.cons_append,aZ_,eT_ r b]
theorem run_load_agg {d:TypeDesc} (ht:P.underlying t=some d) (ha:lC_ d=true) (hi:P.info? t=some ti) (hs:ti.size=w) (hw:∀a,(enc a).length=w) {l:List α} {i:Nat} (h:i<l.length):
  (XOp.load t).run P [.vptr (bA_ enc (l.drop i))]=some (.agg (enc l[i])):=by
 show bi_ P h0 t (.vptr _)=_
 grind [bi_,aT_,List.drop_eq_getElem_cons,bA_,eT_]
theorem sS_ {d:TypeDesc} (ht:P.underlying t=some d) (ha:lC_ d=false) (x:AV) (r:List AV):(XOp.load t).run P [.vptr (x::r)]=some x:=by
 show bi_ P h0 t (.vptr _)=_
 grind [bi_,aT_,aZ_]
theorem t3_ {sz bytes:Nat} (hw:∀a,(enc a).length=sz) (hsz:0<sz) (hb:0<bytes) (l:List α) (a:α) (hl:(l.length+1)*bytes<=1073741824):(XOp.app sz bytes).run P [a3_ enc sz l,.agg (enc a)]=some (a3_ enc sz (l++[a])):=by
 have h1:Nat.div (aM_ (enc a)) sz=1:=by rw [ai_,hw];exact Nat.div_self hsz
 have hl1:l.length+1<=1073741824:=Nat.le_trans (Nat.le_mul_of_pos_right _ hb) hl;show (match bz_ sz (.agg (enc a))with|some (n,l')=>id_ sz bytes (a3_ enc sz l) n l'|none=>none)=_;simp only [bz_,h1];unfold id_;have hd:decide ((enc a).length=1*sz)=true:=by grind
 simp only [hd];cases l with
 |nil=>
  have c1:(Nat.ble (Nat.mul 1 bytes) 1073741824&&Nat.ble 1 1073741824&&Nat.blt 0 bytes)=true:=by simp_all
  grind [a3_,bA_]
 |cons b r=>
  have c1:(Nat.ble (Nat.mul (Nat.add (r.length+1) 1) bytes) 1073741824&&Nat.ble (Nat.add (r.length+1) 1) 1073741824&&Nat.blt 0 bytes)=true:=(by simp_all);have hlen:(bA_ enc (b::r)).length=(r.length+1)*sz:=b0_ hw (b::r);have e3:bA_ enc (b::(r++[a]))=bA_ enc (b::r)++enc a:=by
   grind [ev_,bA_]
  have e4:(r++[a]).length+1=Nat.add (r.length+1) 1:=(by simp);simp only [a3_,hlen,true_and,decide_true,c1,List.cons_append,e3,e4]
theorem ty_ {sz bytes:Nat} (hw:∀a,(enc a).length=sz) (hsz:0<sz) (hb:0<bytes) (l l':List α) (hl:(l.length+l'.length)*bytes<=1073741824):(XOp.app sz bytes).run P [a3_ enc sz l,a3_ enc sz l']=some (a3_ enc sz (l++l')):=by
 have hl1:l.length+l'.length<=1073741824:=Nat.le_trans (Nat.le_mul_of_pos_right _ hb) hl;show (match bz_ sz (a3_ enc sz l')with|some (n,l')=>id_ sz bytes (a3_ enc sz l) n l'|none=>none)=_;have ha:bz_ sz (a3_ enc sz l')=some (l'.length,bA_ enc l'):=by
  cases l' with
  |nil=>rfl
  |cons a r=>
   show (match al_ ⟨hnil,0,0⟩ (.vsl (r.length+1) sz (bA_ enc (a::r))) (r.length+1) sz with|some l=>some (r.length+1,l)|none=>none)=_;have:al_ ⟨hnil,0,0⟩ (.vsl (r.length+1) sz (bA_ enc (a::r))) (r.length+1) sz=some (bA_ enc (a::r)):=by
    show aZ_ (Nat.mul (r.length+1) sz) _=_;have h:=eT_ (bA_ enc (a::r)) []
    grind [b0_]
   grind
 simp only [ha];unfold id_;have hd:decide ((bA_ enc l').length=l'.length*sz)=true:=decide_eq_true (b0_ hw l');simp only [hd];cases l with
 |nil=>
  cases l' with
  |nil=>rfl
  |cons a r=>
   have c1:(Nat.ble (Nat.mul (a::r).length bytes) 1073741824&&Nat.ble (a::r).length 1073741824&&Nat.blt 0 bytes)=true:=by simp_all
   grind [a3_]
 |cons b q=>
  cases l' with
  |nil=>have hlen:(bA_ enc (b::q)).length=(q.length+1)*sz:=b0_ hw (b::q);simp only [a3_,List.length_nil,hlen,true_and,decide_true,List.append_nil]
  |cons a r=>
   have c1:(Nat.ble (Nat.mul (Nat.add (q.length+1) (r.length+1)) bytes) 1073741824&&Nat.ble (Nat.add (q.length+1) (r.length+1)) 1073741824&&Nat.blt 0 bytes)=true:=(by simp_all);have hlen:(bA_ enc (b::q)).length=(q.length+1)*sz:=b0_ hw (b::q);have e3:bA_ enc (b::(q++a::r))=bA_ enc (b::q)++bA_ enc (a::r):=by
    grind [ev_]
   have e4:(q++a::r).length+1=Nat.add (q.length+1) (r.length+1):=by
    grind
   simp only [a3_,List.length_cons,hlen,true_and,decide_true,c1,List.cons_append,e3,e4]
end
def pn_ {α:Type} (enc:α->List AV) (w:Nat) (l:List α):AV:=.vsl l.length w (bA_ enc l)
def SlV {α:Type} (enc:α->List AV) (w:Nat) (l:List α) (a:AV):Prop:=a=pn_ enc w l\/(l=[]/\a=.nsl)
section
variable {α:Type} {enc:α->List AV} {w:Nat}
theorem SlV.of (l:List α):SlV enc w l (a3_ enc w l):=by
 cases l with
 |nil=>exact .inr ⟨rfl,rfl⟩
 |cons a r=>exact .inl rfl
theorem SlV.v (l:List α):SlV enc w l (pn_ enc w l):=.inl rfl
theorem SlV.eq {l:List α} {a:AV} (h:SlV enc w l a) (hl:l≠[]):a=a3_ enc w l:=by
 rcases h with h|⟨h,_⟩
 .rw [h];cases l with
  |nil=>grind
  |cons a r=>rfl
 grind
theorem r7_ (h:∀a,okL (enc a)=true) (l:List α):okC (pn_ enc w l)=true:=by
 grind [kP_,okC,pn_]
theorem SlV.ok {l:List α} {a:AV} (h:SlV enc w l a) (he:∀a,okL (enc a)=true):okC a=true:=by
 grind [r7_,Go.Sx.okC,Go.Sx.SlV]
variable {P:Program} {t e:TypeId} {ti:TypeInfo}
theorem SlV.len {l:List α} {a:AV} (h:SlV enc w l a) (ht:P.underlying t=some (.slice e)):(XOp.len t).run P [a]=some (.int .i64 (l.length:Int)):=by
 rcases h with h|⟨h1,h⟩
 .subst h;show b8_ P h0 t (.vsl l.length w (bA_ enc l))=_;grind [b8_]
 .subst h h1;show b8_ P h0 t .nsl=_;grind [b8_]
theorem SlV.ia {l:List α} {a:AV} (h:SlV enc w l a) (ht:P.underlying t=some (.slice e)) (hi:P.info? e=some ti) (hs:ti.size=w) (hw:∀a,(enc a).length=w) {i:Nat} (hl:i<l.length) (k:IntKind):
  (XOp.iaddr t).run P [a,.int k (i:Int)]=some (.vptr (bA_ enc (l.drop i))):=by
 rw [h.eq (λe=>by grind)]
 grind [run_iaddr_sl]
end
end Go.Sx
namespace Go.Sx
def nM_ (n:Nat):Bool:=decide (9218868437227405312<n%9223372036854775808)
theorem nU_ (n:Nat):(nM_ n=true/\∃s q,Ieee.double.read n=.nan s q)\/(nM_ n=false/\n%9223372036854775808=0/\∃s,Ieee.double.read n=.number s 0 Ieee.double.leastPlace)\/
  (nM_ n=false/\n%9223372036854775808≠0/\((∃s m i,0<m/\Ieee.double.leastPlace<=i/\Ieee.double.read n=.number s m i)\/∃s,Ieee.double.read n=.infinity s)):=by
 have e1:Ieee.double.signWeight=9223372036854775808:=rfl;have e2:Ieee.double.infRung=9218868437227405312:=rfl;have e3:Ieee.double.binade=4503599627370496:=rfl;unfold Ieee.Format.read nM_;simp only [e1,e2,e3];generalize n%9223372036854775808=r;by_cases h1:r<4503599627370496
 .rw [if_pos h1];by_cases h0:r=0;simp_all
  grind
 .rw [if_neg h1];by_cases h2:r<9218868437227405312
  .rw [if_pos h2]
   grind
  .rw [if_neg h2];by_cases h3:r=9218868437227405312;simp_all
   .rw [if_neg h3]
    grind
theorem iY_ (n:Nat):(Ieee.double.order n n==some .eq)= !nM_ n:=by
 unfold Ieee.Format.order;rcases nU_ n with ⟨h,s,q,e⟩|⟨h,_,s,e⟩|⟨h,_,⟨s,m,i,hm,hi,e⟩|⟨s,e⟩⟩
 .grind [Ieee.Datum.order]
 .grind [Ieee.Datum.order]
 .simp only [Ieee.Datum.order]
  grind
 grind [Ieee.Datum.order]
theorem ur_ (P:Program) (t:TypeId) (cx cy:Bool) (n:Nat):(XOp.bin .neq t cx cy).run P [.flt .f64 n,.flt .f64 n]=some (.bool (nM_ n)):=by show some (AV.bool (!(Ieee.double.order n n==some .eq)))=_;rw [iY_,Bool.not_not]
section
variable {P:Program} {t:TypeId}
theorem sn_ (a b:List UInt8):eqB a b=decide (a=b):=by
 by_cases h:a=b;simp_all [dV_]
 simp_all [dV_]
theorem vi_ (cx cy:Bool) (a b:List UInt8):(XOp.bin .neq t cx cy).run P [.str a,.str b]=some (.bool (!decide (a=b))):=by show some (AV.bool (not (eqB a b)))=_;rw [sn_]
theorem tz_ {s d:TypeId} {ds:TypeDesc} {k j:IntKind} (hs:P.underlying s=some ds) (hd:P.underlying d=some (.int k)) (n:Int):(XOp.conv s d).run P [.int j n]=some (.int k (k.wrap n)):=by
 show cZ_ P h0 s d (.int j n)=_
 grind [cZ_,f4_,d2_,dP_]
end
section
variable {P:Program}
theorem uX_ {k:IntKind} {x c:Int} (hc:c≠0) (t:TypeId) (cx cy:Bool):(XOp.bin .rem t cx cy).run P [.int k x,.int k c]=some (.int k (x.tmod c)):=sR_ hc rfl t cx cy
end
def fv (o:Option Nat):AV:=mkF .f64 o
theorem vG_ (o:Option Nat):okC (fv o)=true:=by cases o<;>rfl
def vw_:Option Nat->Bool
 |none=>true
 |some b=>nM_ b
def ordF (a b:Option Nat):Option Ordering:=fOrd .f64 a b
theorem uW_ (P:Program) (op:BinOp) (t:TypeId) (cx cy:Bool) (a b:Option Nat):(XOp.bin op t cx cy).run P [fv a,fv b]=ox_ op .f64 a b:=by show bC_ P op t cx cy (fv a) (fv b)=_;cases a<;>cases b<;>(simp_all [bC_,fv,mkF,io_,flA])
theorem uq_ (a:Option Nat):(ordF a a==some .eq)= !vw_ a:=by
 cases a with
 |none=>rfl
 |some b=>exact iY_ b
end Go.Sx
