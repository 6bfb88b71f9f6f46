/-
  What operations give at values of known forms; a call of symbols, by its tree.
-/
import Derived.Test.YtngajicbldemgaaGreatDoorSyP
import Derived.Test.YtngajicbldemgaaGreatDoorSyM
import Derived.Test.YtngajicbldemgaaGreatDoorSyE
set_option linter.unusedVariables false
set_option linter.unusedSimpArgs false
namespace Go.Sx
section
variable (P:Program) (t:TypeId) (cx cy:Bool) (k:IntKind) (a b:Int)
theorem kix_self:Nat.beq (kix k) (kix k)=true:=Nat.beq_refl _
theorem dp_ {op:BinOp} {r:AV} (h:dH_ op k a b=some r):(XOp.bin op t cx cy).run P [.int k a,.int k b]=some r:=by
 show d4_ P op k a k b=some r
 grind [d4_,kix_self]
theorem run_lss:(XOp.bin .lss t cx cy).run P [.int k a,.int k b]=some (.bool (decide (a<b))):=dp_ P t cx cy k a b (by grind [iQ_,dH_])
theorem run_gtr:(XOp.bin .gtr t cx cy).run P [.int k a,.int k b]=some (.bool (decide (b<a))):=dp_ P t cx cy k a b (by grind [iQ_,dH_])
theorem run_geq:(XOp.bin .geq t cx cy).run P [.int k a,.int k b]=some (.bool (decide (b<=a))):=dp_ P t cx cy k a b (by grind [iQ_,dH_])
theorem run_eql:(XOp.bin .eql t cx cy).run P [.int k a,.int k b]=some (.bool (decide (a=b))):=dp_ P t cx cy k a b (by grind [fG_,dH_])
theorem run_neq:(XOp.bin .neq t cx cy).run P [.int k a,.int k b]=some (.bool (!decide (a=b))):=dp_ P t cx cy k a b (by grind [fG_,dH_])
theorem run_add:(XOp.bin .add t cx cy).run P [.int k a,.int k b]=some (.int k (k.wrap (a+b))):=dp_ P t cx cy k a b (by grind [dx_,di_,dH_])
theorem run_sub:(XOp.bin .sub t cx cy).run P [.int k a,.int k b]=some (.int k (k.wrap (a-b))):=dp_ P t cx cy k a b (by grind [dx_,di_,dH_])
theorem run_mul:(XOp.bin .mul t cx cy).run P [.int k a,.int k b]=some (.int k (k.wrap (a*b))):=dp_ P t cx cy k a b (by grind [dx_,di_,dH_])
theorem vw_ (x:Bool):(XOp.un .not).run P [.bool x]=some (.bool (!x)):=rfl
variable {P t}
end
theorem vT_ {x:Int} (h1: -9223372036854775808<=x) (h2:x<=9223372036854775807):IntKind.i64.wrap x=x:=by simp [IntKind.wrap,IntKind.bits,IntKind.signed];omega
variable [Gl]
theorem vn_ {P:Program} (hm:P.follows .mixedOrders=true) (ho:kI_ P) {f:FuncId} {ft:FT} {vs:List AV} {R:Nat->List AV->Prop} {c:VC} {n:Nat} {t:VT} (hlen:vs.length=ft.ent.nv) (hk:∀Y,Fresh Y 64->KnownF P c.fc (Y.puts 64 vs))
  (ht:ve_ P n c f ft=t) (h:∀Y,Fresh Y 64->Gl.gt Y.v->VOK P (QF R) [] (Y.puts 64 vs) t):CF P f ft vs R:=
 ⟨hlen,λY hf B pr E w us hy hg hr hcon=>by obtain ⟨p1,_,_,p4⟩:=hf.puts vs;rw [hlen]at p1;have hgt:Gl.gt Y.v:=Gl.gtm _ _ (λi hi=>by rw [hy.v];grind) hg.2;exact tg_ (c:=c) (fuel:=n) hm (ct_ hm ho n) ⟨p1,hk Y hf⟩ (by grind) B pr E w us hy hg hr hcon⟩
end Go.Sx
namespace Go.Sx
section
variable [Gl] {P:Program} {Q:AV->Prop} {L:List (Nat->List AV->Prop)} {Y:Sy}
theorem vC_ {op:XOp} {args:List AV} {n:Nat} {t:VT} {r:AV} (h1:op.run P (ab_ Y.v args)=some r) (h2:okC r=true) (h3:VOK P Q L (Y.put n r) t):VOK P Q L Y (.lt op args n none t):=⟨r,h1,h2,h3⟩
theorem vm_ {op:XOp} {args:List AV} {n k:Nat} {t:VT} {cs:List AV} (h1:op.run P (ab_ Y.v args)=some (.agg cs)) (hl:cs.length=k) (h2:okL cs=true) (h3:VOK P Q L (Y.puts n cs) t):VOK P Q L Y (.lt op args n (some k) t):=⟨cs,h1,hl,h2,h3⟩
theorem vl_ {i:Nat} {a b:VT} {t:Bool} (h:Y.v i=some (.bool t)) (h1:t=true->VOK P Q L Y a) (h2:t=false->VOK P Q L Y b):VOK P Q L Y (.ite i a b):=⟨t,h,h1,h2⟩
theorem uG_ {f:FuncId} {args:List AV} {n:Nat} {sh:List (Option Nat)} {t:VT} {v:AV} {vs:List AV} (h1:ic_ P f (ab_ Y.v args) v) (h2:hs_ sh v=some vs) (h3:okL vs=true) (h4:VOK P Q L (Y.puts n vs) t):VOK P Q L Y (.call f args n sh t):=
 ⟨v,vs,h1,h2,h3,h4⟩
theorem ux_ {f:FuncId} {ft:FT} {hv:List AV} {n:Nat} {bs:VTs} {R:Nat->List AV->Prop} (h1:CF P f ft (ab_ Y.v hv) R) (h2:okL (ab_ Y.v hv)=true) (h3:sq_ P Q R L (Y.puts n (ab_ Y.v hv)) (Nat.add n ft.ent.nv) 0 bs):VOK P Q L Y (.callF f ft hv n bs):=⟨R,h1,h2,h3⟩
theorem vk_ {R:Nat->List AV->Prop} {j:Nat} {hv:List AV} (h1:okL (ab_ Y.v hv)=true) (h:R j (ab_ Y.v hv)):VOK P (QF R) L Y (.done (.tup (.int .i64 (.ofNat j)::hv))):=⟨j,_,rfl,h1,h⟩
theorem uH_ {v:AV} (h:Q (den Y.v v)):VOK P Q L Y (.done v):=h
theorem uw_ {lvl j:Nat} {hv:List AV} {R:Nat->List AV->Prop} (h1:L[lvl]? =some R) (h2:R j (ab_ Y.v hv)):VOK P Q L Y (.again lvl j hv):=⟨R,h1,h2⟩
open Classical in
theorem uI_ {ι:Type} (st:ι->List AV) (p:ι->Prop) (μ:ι->Nat) (i0:ι) (h0:p i0) {n nv:Nat} {hv:List AV} {t:VT} (he:ab_ Y.v hv=st i0) (hok:∀i,p i->okL (st i)=true)
  (hμ:∀i j,p i->p j->st i=st j->μ i=μ j) (hb:∀i,p i->VOK P Q (L++[λ_ vs=>∃i',p i'/\vs=st i'/\μ i'<μ i]) (Y.puts n (st i)) t):VOK P Q L Y (.loop n 0 hv (.cons nv t .nil)):=by
 let m:List AV->Nat:=λvs=>if h:∃i,p i/\vs=st i then μ (Classical.choose h)else 0
 have hm:∀i,p i->m (st i)=μ i:=λi hi=>by
  have h:∃j,p j/\st i=st j:=⟨i,hi,rfl⟩
  grind
 refine ⟨λ_ vs=>∃i,p i/\vs=st i,λ_ vs=>m vs,λj vs ⟨i,h1,h2⟩=>by grind,⟨i0,h0,he⟩,λvs hvs hI=>?_,trivial⟩;obtain ⟨i,h1,h2⟩:=hI;subst h2;have e:(λ(_:Nat) (vs':List AV)=>(∃i',p i'/\vs'=st i')/\m vs'<m (st i))=λ_ vs'=>∃i',p i'/\vs'=st i'/\μ i'<μ i:=by
  funext _ vs'
  refine propext ⟨λh=>?_,λh=>?_⟩
  .grind
  .obtain ⟨i',g1,g2,g3⟩:=h;subst g2
   grind
 grind
end
theorem g6_:∀(n:Nat) (sh:List (Option Nat)),ad_ (bY_ n sh)=true
 |_,[]=>rfl
 |n,none::s=>by simp only [bY_,ad_,ae_];exact g6_ _ s
 |n,some m::s=>by simp only [bY_,ad_,ae_,hD_];exact g6_ _ s
theorem gN_:∀{sh:List (Option Nat)} {l vs:List AV},flat sh l=some vs->okL vs=true->iX_ l=true
 |[],[],vs,h,_=>rfl
 |none::s,a::r,vs,h,hok=>by unfold flat at h;split at h;rename_i l' hl;cases h;rw [aZ_]at hok;obtain ⟨k1,k2⟩:=aa_ hok;simp only [iX_,sS_ k1,gN_ hl k2];cases h
 |some m::s,a::r,vs,h,hok=>by have ha:∃cs,a=.agg cs:=(by cases a<;>first|exact ⟨_,rfl⟩|(cases h));obtain ⟨cs,rfl⟩:=ha;simp only [flat]at h;split at h;split at h;rename_i l' hl;cases h;obtain ⟨k1,k2⟩:=fM_ hok;simp only [iX_,okI,k1,gN_ hl k2];cases h;cases h
 |[],_::_,vs,h,_=>by cases h
 |none::_,[],vs,h,_=>by cases h
 |some _::_,[],vs,h,_=>by cases h
theorem fE_ {s:Nat->Option AV}:∀(sh:List (Option Nat)) (n:Nat) (l vs:List AV),flat sh l=some vs->(∀i a,vs[i]? =some a->s (n+i)=some a)->ab_ s (bY_ n sh)=l
 |[],n,[],vs,h,_=>rfl
 |none::sh,n,a::r,vs,h,hs=>by
  unfold flat at h;split at h
  .rename_i l' hl;cases h;have h0:s n=some a:=(by simpa using hs 0 a rfl);simp only [bY_,ab_,den,h0];rw [fE_ sh (n+1) r l' hl λi b hb=>by
    have:=hs (i+1) b (by grind)
    grind]
  cases h
 |some m::sh,n,a::r,vs,h,hs=>by
  have ha:∃cs,a=.agg cs:=(by cases a<;>first|exact ⟨_,rfl⟩|(cases h));obtain ⟨cs,rfl⟩:=ha;simp only [flat]at h;split at h
  .rename_i hd;have hd:cs.length=m:=of_decide_eq_true hd;subst hd;split at h
   .rename_i l' hl;cases h;show AV.agg (ab_ s (af_ n cs.length))::ab_ s (bY_ (n+cs.length) sh)=_;rw [fE_ sh (n+cs.length) r l' hl λi b hb=>by
     have:=hs (cs.length+i) b (by grind)
     grind]
    rw [den_symsL n cs λi b hb=>hs i b (by
     grind)]
   cases h
  cases h
 |[],_,_::_,vs,h,_=>by cases h
 |none::_,_,[],vs,h,_=>by cases h
 |some _::_,_,[],vs,h,_=>by cases h
where
 den_symsL {s:Nat->Option AV}:∀(n:Nat) (cs:List AV),(∀i a,cs[i]? =some a->s (n+i)=some a)->ab_ s (af_ n cs.length)=cs
 |n,[],_=>rfl
 |n,a::r,h=>by
  have h0:s n=some a:=(by simpa using h 0 a rfl);simp only [List.length_cons,af_,ab_,den,h0];rw [den_symsL (n+1) r λi b hb=>by
   have:=h (i+1) b (by grind)
   grind]
theorem ua_ [Gl] {P:Program} (hm:P.follows .mixedOrders=true) (ho:kI_ P) {f:FuncId} {args ls:List AV} {sh:List (Option Nat)} {v:AV} {c:VC} {n m:Nat} {t:VT} (hfl:flat sh args=some ls) (hls:okL ls=true) (hv:a0_ v=true)
  (hk:∀Y,Fresh Y 64->KnownF P c.fc (Y.puts 64 ls)) (hm':64+dr_ sh=m) (ht:vFn P n c f (bY_ 64 sh) m=t) (h:∀Y,Fresh Y 64->Gl.gt Y.v->VOK P (· =v) [] (Y.puts 64 ls) t):ic_ P f args v:=
 pure_sym (args':=bY_ 64 sh) (gN_ hfl hls) hv (g6_ _ _) hls (λY hf=>fE_ sh 64 args ls hfl λi a ha=>bJ_ ls hf i a ha) λY hf hg=>
  (sb_ (c:=c) (n:=m) hm (ct_ hm ho n) ⟨by have:=(hf.puts ls).1;grind [gd_],hk Y hf⟩ (by grind)).low
theorem u7_ [Gl] {P:Program} (hm:P.follows .mixedOrders=true) (ho:kI_ P) {f:FuncId} {args args' ls:List AV} {v:AV} {c:VC} {n m:Nat} {t:VT} (hok:iX_ args=true) (hso:ad_ args'=true) (hls:okL ls=true) (hv:a0_ v=true)
  (hden:∀Y,Fresh Y 64->ab_ (Y.puts 64 ls).v args'=args) (hk:∀Y,Fresh Y 64->KnownF P c.fc (Y.puts 64 ls)) (hm':64+ls.length=m) (ht:vFn P n c f args' m=t) (h:∀Y,Fresh Y 64->Gl.gt Y.v->VOK P (· =v) [] (Y.puts 64 ls) t):ic_ P f args v:=
 pure_sym (args':=args') hok hv hso hls hden λY hf hg=>
  (sb_ (c:=c) (n:=m) hm (ct_ hm ho n) ⟨by have:=(hf.puts ls).1;grind,hk Y hf⟩ (by grind)).low
theorem vK_ [Gl] {P:Program} (Y:Sy):KnownF P ⟨[],[]⟩ Y:=⟨λf h=>(List.not_mem_nil h).elim,λf h=>(List.not_mem_nil h).elim⟩
def bR_ {α:Type} (enc:α->List AV):List α->List AV
 |[]=>[]
 |a::r=>enc a++bR_ enc r
def cS_ {α:Type} (enc:α->List AV) (w:Nat) (l:List α):AV:=match l with
 |[]=>.nsl
 |a::r=>.vsl (r.length+1) w (bR_ enc (a::r))
section
variable {α:Type} {enc:α->List AV} {w:Nat}
theorem eA_:∀a b:List α,bR_ enc (a++b)=bR_ enc a++bR_ enc b
 |[],b=>rfl
 |x::r,b=>by simp only [List.cons_append,bR_,eA_ r b,List.append_assoc]
theorem eB_ (hw:∀a,(enc a).length=w):∀l:List α,(bR_ enc l).length=l.length*w
 |[]=>by simp [bR_]
 |a::r=>by simp only [bR_,List.length_append,hw,eB_ hw r,List.length_cons,Nat.add_mul];omega
theorem gF_ (hw:∀a,(enc a).length=w):∀(l:List α) (i:Nat),(bR_ enc l).drop (i*w)=bR_ enc (l.drop i)
 |l,0=>by simp
 |[],i+1=>by simp [bR_]
 |a::r,i+1=>by simp only [bR_,List.drop_succ_cons];rw [←gF_ hw r i,Nat.add_mul,Nat.one_mul,Nat.add_comm,←List.drop_drop,List.drop_left' (hw a)]
theorem kU_ (h:∀a,okL (enc a)=true):∀l:List α,okL (bR_ enc l)=true
 |[]=>rfl
 |a::r=>okL_join (h a) (kU_ h r)
where
 okL_join:∀{a b:List AV},okL a=true->okL b=true->okL (a++b)=true
 |[],b,_,h=>h
 |x::r,b,h1,h2=>by rw [aZ_]at h1;obtain ⟨k1,k2⟩:=aa_ h1;rw [List.cons_append,aZ_,k1,okL_join k2 h2];rfl
theorem uh_ (h:∀a,okL (enc a)=true) (l:List α):okC (cS_ enc w l)=true:=by
 cases l with
 |nil=>rfl
 |cons a r=>exact kU_ h (a::r)
mutual
theorem qa_:∀{a:AV},okC a=true->a0_ a=true
 | .opq,h=>by simp [okC]at h
 | .bool _,_=>rfl
 | .int _ _,_=>rfl
 | .flt _ _,_=>rfl
 | .nan _,_=>rfl
 | .str _,_=>rfl
 | .nptr,_=>rfl
 | .ptr _ _,h=>by simp [okC]at h
 | .vptr cs,h=>by simp only [okC]at h;simp only [a0_];exact b2_ h
 | .nsl,_=>rfl
 | .sl ..,h=>by simp [okC]at h
 | .vsl _ _ cs,h=>by simp only [okC]at h;simp only [a0_];exact b2_ h
 | .nmap,_=>rfl
 | .map _,h=>by simp [okC]at h
 | .nfn,_=>rfl
 | .fn _ cs,h=>by simp only [okC]at h;simp only [a0_];exact b2_ h
 | .nif,_=>rfl
 | .iface _ a,h=>by simp only [okC]at h;simp only [a0_];exact kq_ h
 | .agg _,h=>by simp [okC]at h
 | .tup _,h=>by simp [okC]at h
 | .sym _,h=>by simp [okC]at h
 | .slx ..,h=>by simp [okC]at h
 | .ptx ..,h=>by simp [okC]at h
theorem kq_:∀{a:AV},okI a=true->a0_ a=true
 | .opq,h=>by simp [okI]at h
 | .bool _,_=>rfl
 | .int _ _,_=>rfl
 | .flt _ _,_=>rfl
 | .nan _,_=>rfl
 | .str _,_=>rfl
 | .nptr,_=>rfl
 | .ptr _ _,h=>by simp [okI]at h
 | .vptr cs,h=>by simp only [okI]at h;simp only [a0_];exact b2_ h
 | .nsl,_=>rfl
 | .sl ..,h=>by simp [okI]at h
 | .vsl _ _ cs,h=>by simp only [okI]at h;simp only [a0_];exact b2_ h
 | .nmap,_=>rfl
 | .map _,h=>by simp [okI]at h
 | .nfn,_=>rfl
 | .fn _ cs,h=>by simp only [okI]at h;simp only [a0_];exact b2_ h
 | .nif,_=>rfl
 | .iface _ a,h=>by simp only [okI]at h;simp only [a0_];exact kq_ h
 | .agg cs,h=>by simp only [okI]at h;simp only [a0_];exact b2_ h
 | .tup _,h=>by simp [okI]at h
 | .sym _,h=>by simp [okI]at h
 | .slx ..,h=>by simp [okI]at h
 | .ptx ..,h=>by simp [okI]at h
theorem b2_:∀{l:List AV},okL l=true->cb_ l=true
 |[],_=>rfl
 |a::r,h=>by rw [aZ_]at h;obtain ⟨h1,h2⟩:=aa_ h;simp only [cb_,qa_ h1,b2_ h2]
end
variable {P:Program} {t e:TypeId} {ti:TypeInfo}
theorem lq_ (ht:P.underlying t=some (.slice e)) (hi:P.info? e=some ti) (hs:ti.size=w) (hw:∀a,(enc a).length=w) {l:List α} {i:Nat} (h:i<l.length) (k:IntKind):
  (XOp.iaddr t).run P [cS_ enc w l,.int k (i:Int)]=some (.vptr (bR_ enc (l.drop i))):=by
 cases l with
 |nil=>simp at h
 |cons a r=>
  show aR_ P t (.vsl (r.length+1) w _) (.int k (.ofNat i))=_;unfold aR_;have hb:Nat.blt i (r.length+1)=true:=(by simp_all);simp only [ht,hi,idx,hb,hs,aA_]
  grind [gF_]
theorem eX_:∀(a b:List AV),a1_ a.length (a++b)=some a
 |[],b=>rfl
 |x::r,b=>by simp only [List.length_cons,List.cons_append,a1_,eX_ r b]
theorem run_load_agg {d:TypeDesc} (ht:P.underlying t=some d) (ha:lI_ d=true) (hi:P.info? t=some ti) (hs:ti.size=w) (hw:∀a,(enc a).length=w) {l:List α} {i:Nat} (h:i<l.length):
  (XOp.load t).run P [.vptr (bR_ enc (l.drop i))]=some (.agg (enc l[i])):=by
 show bj_ P h0 t (.vptr _)=_
 grind [bj_,aT_,List.drop_eq_getElem_cons,bR_,eX_]
theorem s3_ {d:TypeDesc} (ht:P.underlying t=some d) (ha:lI_ d=false) (x:AV) (r:List AV):(XOp.load t).run P [.vptr (x::r)]=some x:=by
 show bj_ P h0 t (.vptr _)=_
 grind [bj_,aT_,a1_]
theorem ud_ {sz bytes:Nat} (hw:∀a,(enc a).length=sz) (hsz:0<sz) (hb:0<bytes) (l:List α) (a:α) (hl:(l.length+1)*bytes<=1073741824):(XOp.app sz bytes).run P [cS_ enc sz l,.agg (enc a)]=some (cS_ enc sz (l++[a])):=by
 have h1:Nat.div (aK_ (enc a)) sz=1:=by rw [ai_,hw];exact Nat.div_self hsz
 have hl1:l.length+1<=1073741824:=Nat.le_trans (Nat.le_mul_of_pos_right _ hb) hl;show (match bM_ sz (.agg (enc a))with|some (n,l')=>kK_ sz bytes (cS_ enc sz l) n l'|none=>none)=_;simp only [bM_,h1];unfold kK_;have hd:decide ((enc a).length=1*sz)=true:=by grind
 simp only [hd];cases l with
 |nil=>
  have c1:(Nat.ble (Nat.mul 1 bytes) 1073741824&&Nat.ble 1 1073741824&&Nat.blt 0 bytes)=true:=by simp_all
  grind [cS_,bR_]
 |cons b r=>
  have c1:(Nat.ble (Nat.mul (Nat.add (r.length+1) 1) bytes) 1073741824&&Nat.ble (Nat.add (r.length+1) 1) 1073741824&&Nat.blt 0 bytes)=true:=(by simp_all);have hlen:(bR_ enc (b::r)).length=(r.length+1)*sz:=eB_ hw (b::r);have e3:bR_ enc (b::(r++[a]))=bR_ enc (b::r)++enc a:=by
   grind [eA_,bR_]
  have e4:(r++[a]).length+1=Nat.add (r.length+1) 1:=(by simp);simp only [cS_,hlen,true_and,decide_true,c1,List.cons_append,e3,e4]
end
def nh_ {α:Type} (enc:α->List AV) (w:Nat) (l:List α):AV:=.vsl l.length w (bR_ enc l)
def SlV {α:Type} (enc:α->List AV) (w:Nat) (l:List α) (a:AV):Prop:=a=nh_ enc w l\/(l=[]/\a=.nsl)
section
variable {α:Type} {enc:α->List AV} {w:Nat}
theorem SlV.of (l:List α):SlV enc w l (cS_ enc w l):=by
 cases l with
 |nil=>exact .inr ⟨rfl,rfl⟩
 |cons a r=>exact .inl rfl
theorem SlV.v (l:List α):SlV enc w l (nh_ enc w l):=.inl rfl
theorem SlV.eq {l:List α} {a:AV} (h:SlV enc w l a) (hl:l≠[]):a=cS_ enc w l:=by
 rcases h with h|⟨h,_⟩
 .rw [h];cases l with
  |nil=>grind
  |cons a r=>rfl
 grind
theorem si_ (h:∀a,okL (enc a)=true) (l:List α):okC (nh_ enc w l)=true:=by
 grind [kU_,okC,nh_]
theorem SlV.ok {l:List α} {a:AV} (h:SlV enc w l a) (he:∀a,okL (enc a)=true):okC a=true:=by
 grind [si_,Go.Sx.okC,Go.Sx.SlV]
variable {P:Program} {t e:TypeId} {ti:TypeInfo}
theorem SlV.len {l:List α} {a:AV} (h:SlV enc w l a) (ht:P.underlying t=some (.slice e)):(XOp.len t).run P [a]=some (.int .i64 (l.length:Int)):=by
 rcases h with h|⟨h1,h⟩
 .subst h;show c5_ P h0 t (.vsl l.length w (bR_ enc l))=_;grind [c5_]
 .subst h h1;show c5_ P h0 t .nsl=_;grind [c5_]
theorem SlV.ia {l:List α} {a:AV} (h:SlV enc w l a) (ht:P.underlying t=some (.slice e)) (hi:P.info? e=some ti) (hs:ti.size=w) (hw:∀a,(enc a).length=w) {i:Nat} (hl:i<l.length) (k:IntKind):
  (XOp.iaddr t).run P [a,.int k (i:Int)]=some (.vptr (bR_ enc (l.drop i))):=by
 rw [h.eq (λe=>by grind)]
 grind [lq_]
theorem vx_ (ht:P.underlying t=some (.slice e)) (hi:P.info? e=some ti) (hs:ti.size=w) (hw:∀a,(enc a).length=w) {l:List α} {a:AV} (h:SlV enc w l a) {lo hi':Option AV} {i j:Nat} (hlo:bnd lo 0=some i) (hhi:bnd hi' l.length=some j) (hij:i<=j) (hj:j<=l.length):
  ∃r,dw_ a (aN_ P h0 t a lo hi')=some r/\SlV enc w ((l.take j).drop i) r:=by
 rcases h with h|⟨h1,h⟩
 .subst h;refine ⟨nh_ enc w ((l.take j).drop i),?_,.inl rfl⟩;show aN_ P h0 t (.vsl l.length w (bR_ enc l)) lo hi'=_;unfold aN_;have hb:(Nat.ble i j&&(Nat.ble j l.length&&Nat.beq w ti.size))=true:=by simp_all
  simp only [hlo,ht,hi,hhi,hb,aA_];have hlen:((l.take j).drop i).length=j-i:=(by grind);have e1:(bR_ enc l).drop (Nat.mul i w)=bR_ enc ((l.take j).drop i)++bR_ enc (l.drop j):=by
   grind [gF_,eA_,List.take_append_drop]
  have e2:a1_ (Nat.mul (Nat.sub j i) w) (bR_ enc ((l.take j).drop i)++bR_ enc (l.drop j))=some (bR_ enc ((l.take j).drop i)):=by
   grind [eX_,eB_]
  rw [e1,e2];show some (AV.vsl (Nat.sub j i) w _)=some (AV.vsl ((l.take j).drop i).length w _)
  grind
 .subst h h1;have hj0:j=0:=(by grind);have hi0:i=0:=(by omega);subst hj0 hi0;refine ⟨.nsl,?_,.inr ⟨rfl,rfl⟩⟩;show aN_ P h0 t .nsl lo hi'=_
  grind [aN_]
end
end Go.Sx
namespace Go.Sx
def p5_ (n:Nat):Bool:=decide (9218868437227405312<n%9223372036854775808)
theorem n4_ (n:Nat):(p5_ n=true/\∃s q,Ieee.double.read n=.nan s q)\/(p5_ n=false/\n%9223372036854775808=0/\∃s,Ieee.double.read n=.number s 0 Ieee.double.leastPlace)\/
  (p5_ n=false/\n%9223372036854775808≠0/\((∃s m i,0<m/\Ieee.double.leastPlace<=i/\Ieee.double.read n=.number s m i)\/∃s,Ieee.double.read n=.infinity s)):=by
 have e1:Ieee.double.signWeight=9223372036854775808:=rfl;have e2:Ieee.double.infRung=9218868437227405312:=rfl;have e3:Ieee.double.binade=4503599627370496:=rfl;unfold Ieee.Format.read p5_;simp only [e1,e2,e3];generalize n%9223372036854775808=r;by_cases h1:r<4503599627370496
 .rw [if_pos h1];by_cases h0:r=0;simp_all
  grind
 .rw [if_neg h1];by_cases h2:r<9218868437227405312
  .rw [if_pos h2]
   grind
  .rw [if_neg h2];by_cases h3:r=9218868437227405312;simp_all
   .rw [if_neg h3]
    grind
theorem nZ_ (n:Nat):(Ieee.double.order n n==some .eq)= !p5_ n:=by
 unfold Ieee.Format.order;rcases n4_ n with ⟨h,s,q,e⟩|⟨h,_,s,e⟩|⟨h,_,⟨s,m,i,hm,hi,e⟩|⟨s,e⟩⟩
 .grind [Ieee.Datum.order]
 .grind [Ieee.Datum.order]
 .simp only [Ieee.Datum.order]
  grind
 grind [Ieee.Datum.order]
theorem uC_ (P:Program) (t:TypeId) (cx cy:Bool) (n:Nat):(XOp.bin .neq t cx cy).run P [.flt .f64 n,.flt .f64 n]=some (.bool (p5_ n)):=by show some (AV.bool (!(Ieee.double.order n n==some .eq)))=_;rw [nZ_,Bool.not_not]
section
variable {P:Program} {t:TypeId}
theorem sB_ (a b:List UInt8):eqB a b=decide (a=b):=by
 by_cases h:a=b;simp_all [d2_]
 simp_all [d2_]
theorem vv_ (cx cy:Bool) (a b:List UInt8):(XOp.bin .eql t cx cy).run P [.str a,.str b]=some (.bool (decide (a=b))):=by show some (AV.bool (eqB a b))=_;rw [sB_]
theorem tK_ {s d:TypeId} {ds:TypeDesc} {k j:IntKind} (hs:P.underlying s=some ds) (hd:P.underlying d=some (.int k)) (n:Int):(XOp.conv s d).run P [.int j n]=some (.int k (k.wrap n)):=by
 show c3_ P h0 s d (.int j n)=_
 grind [c3_,f9_,dx_,di_]
end
section
variable {P:Program}
theorem va_ {k:IntKind} {x c:Int} (hc:c≠0) (t:TypeId) (cx cy:Bool):(XOp.bin .rem t cx cy).run P [.int k x,.int k c]=some (.int k (x.tmod c)):=s2_ hc rfl t cx cy
end
theorem tJ_ {P:Program} {g:Nat} {l:List (FuncId×List AV×AV)} {rd:RD} {f:FuncId} {args:List AV} {v:AV} (hp: @ic_ (eI_ g l rd) P f args v) (w:World) (ps:List MemPlace) {vs:List Value} {m:Int}
  (hw:w.cell? ⟨g,0,none⟩=some (.int .i64 m)) (hn:cb_ args=true) (hc:ConL (l4_ (iE_ w (.cell g 0::ps))) args vs):
  Calls P f ⟨vs⟩ w λe w'=>(∃E u,e=.returned u/\Con E v u)/\GrownB w w':=by
 let E:Env:={ l4_ (iE_ w (.cell g 0::ps))with sy:=λi=>if i=0 then some (.int .i64 m)else none }
 have hr:Rel w (λb=>b<w.heap.size) E H0 w:={
  own:=⟨λ_=>none,λid k hk=>(lb_ hk).elim,λ_ _=>rfl,λ_ _ _ _=>rfl⟩
  imm:=sG_ w _
  ib:=λ_ _ _ _ h=>h
  fresh:=λ_ _ _=>rfl
  resv:=λ_ h=>h.elim
  vds:=λ_ h=>h.elim
  szs:=λ_ _ h=>by cases h
  prot:=λb h=>⟨h,rfl⟩
  size:=Nat.le_refl _
  os:=rfl
  output:=rfl }
 have hg: @GlOk (eI_ g l rd) E:=by
  refine ⟨λi=>?_,m,rfl,λi _ hn=>by grind⟩;show Con E (glI g i) _;unfold glI;split
  .rename_i hb;have:=Nat.eq_of_beq_eq_true hb;subst this;refine ⟨i,0,[.int .i64 m],rfl,⟨_,_,rfl,⟨.int .i64 m,rfl,rfl,by simp [Con0]⟩,rfl⟩,λj v hv=>?_⟩;cases j with
   |zero=>show iE_ w (.cell i 0::ps) i (0+0)=_;simp_all [iE_]
   |succ j=>simp at hv
  simp [Con]
 refine Calls.mono (hp H0 w (λb=>b<w.heap.size) E w vs hg hr (bA_ (E:=l4_ (iE_ w (.cell g 0::ps))) (E':=E) (λ_ _ _ h=>h) (λi a _ h=>by cases h) hn hc)) λe w' he=>?_;obtain ⟨E',_,u,rfl,h1,h2⟩:=he;exact ⟨⟨E',u,rfl,h1⟩,q6_ h2.size (λb hb=>(h2.prot b hb).2) h2.os h2.output⟩
end Go.Sx
