/-
  What operations give at values of known forms; a call of symbols, by its tree.
-/
import Derived.Test.YtjconanknjgpnaaGreatSyP
import Derived.Test.YtjconanknjgpnaaGreatSyM
import Derived.Test.YtjconanknjgpnaaGreatSyD
set_option linter.unusedVariables false
set_option linter.unusedSimpArgs false
namespace Go.Sx
theorem vR_ (Y:Sy) (n:Nat) (a:AV) (i:Nat):(Y.put n a).v i=if i=n then some a else Y.v i:=rfl
section
variable (P:Program) (t:TypeId) (cx cy:Bool) (k:IntKind) (a b:Int)
theorem kix_self:Nat.beq (kix k) (kix k)=true:=Nat.beq_refl _
theorem c1_ {op:BinOp} {r:AV} (h:mi_ op k a b=some r):(XOp.bin op t cx cy).run P [.int k a,.int k b]=some r:=by show cU_ P op k a k b=some r;unfold cU_;rw [kix_self,h]
theorem run_lss:(XOp.bin .lss t cx cy).run P [.int k a,.int k b]=some (.bool (decide (a<b))):=c1_ P t cx cy k a b (by show some (AV.bool (ltI a b))=_;rw [iS_])
theorem run_gtr:(XOp.bin .gtr t cx cy).run P [.int k a,.int k b]=some (.bool (decide (b<a))):=c1_ P t cx cy k a b (by show some (AV.bool (ltI b a))=_;rw [iS_])
theorem run_leq:(XOp.bin .leq t cx cy).run P [.int k a,.int k b]=some (.bool (decide (a<=b))):=c1_ P t cx cy k a b (by show some (AV.bool (not (ltI b a)))=_;rw [iS_,gZ_])
theorem run_geq:(XOp.bin .geq t cx cy).run P [.int k a,.int k b]=some (.bool (decide (b<=a))):=c1_ P t cx cy k a b (by show some (AV.bool (not (ltI a b)))=_;rw [iS_,gZ_])
theorem run_eql:(XOp.bin .eql t cx cy).run P [.int k a,.int k b]=some (.bool (decide (a=b))):=c1_ P t cx cy k a b (by show some (AV.bool (eqI a b))=_;rw [fH_];rfl)
theorem run_neq:(XOp.bin .neq t cx cy).run P [.int k a,.int k b]=some (.bool (!decide (a=b))):=c1_ P t cx cy k a b (by show some (AV.bool (not (eqI a b)))=_;rw [fH_];rfl)
theorem run_add:(XOp.bin .add t cx cy).run P [.int k a,.int k b]=some (.int k (k.wrap (a+b))):=c1_ P t cx cy k a b (by show some (mkI k (dZ_ k (Int.add a b)))=_;rw [dj_,cG_];rfl)
theorem run_sub:(XOp.bin .sub t cx cy).run P [.int k a,.int k b]=some (.int k (k.wrap (a-b))):=c1_ P t cx cy k a b (by show some (mkI k (dZ_ k (Int.sub a b)))=_;rw [dj_,cG_];rfl)
theorem run_mul:(XOp.bin .mul t cx cy).run P [.int k a,.int k b]=some (.int k (k.wrap (a*b))):=c1_ P t cx cy k a b (by show some (mkI k (dZ_ k (Int.mul a b)))=_;rw [dj_,cG_];rfl)
theorem vr_ (x:Bool):(XOp.un .not).run P [.bool x]=some (.bool (!x)):=rfl
variable {P t}
end
theorem vL_ {x:Int} (h1: -9223372036854775808<=x) (h2:x<=9223372036854775807):IntKind.i64.wrap x=x:=by simp [IntKind.wrap,IntKind.bits,IntKind.signed];omega
variable [Gl]
theorem vg_ {P:Program} (hm:P.follows .mixedOrders=true) (ho:kQ_ P) {f:FuncId} {ft:FT} {vs:List AV} {R:Nat->List AV->Prop} {c:VC} {n:Nat} {t:VT} (hlen:vs.length=ft.ent.nv) (hk:∀Y,Fresh Y 64->KnownF P c.fc (Y.puts 64 vs))
  (ht:u8_ P n c f ft=t) (h:∀Y,Fresh Y 64->Gl.gt Y.v->VOK P (QF R) [] (Y.puts 64 vs) t):CF P f ft vs R:=
 ⟨hlen,λY hf B pr E w us hy hg hr hcon=>by obtain ⟨p1,_,_,p4⟩:=hf.puts vs;rw [hlen]at p1;have hgt:Gl.gt Y.v:=Gl.gtm _ _ (λi hi=>by rw [hy.v];exact (p4 i hi).symm) hg.2;exact tc_ (c:=c) (fuel:=n) hm (dc_ hm ho n) ⟨p1,hk Y hf⟩ (by rw [ht];exact h Y hf hgt) B pr E w us hy hg hr hcon⟩
end Go.Sx
namespace Go.Sx
section
variable [Gl] {P:Program} {Q:AV->Prop} {L:List (Nat->List AV->Prop)} {Y:Sy}
theorem vw_ {op:XOp} {args:List AV} {n:Nat} {t:VT} {r:AV} (h1:op.run P (ab_ Y.v args)=some r) (h2:okC r=true) (h3:VOK P Q L (Y.put n r) t):VOK P Q L Y (.lt op args n none t):=⟨r,h1,h2,h3⟩
theorem ve_ {op:XOp} {args:List AV} {n k:Nat} {t:VT} {cs:List AV} (h1:op.run P (ab_ Y.v args)=some (.agg cs)) (hl:cs.length=k) (h2:okL cs=true) (h3:VOK P Q L (Y.puts n cs) t):VOK P Q L Y (.lt op args n (some k) t):=⟨cs,h1,hl,h2,h3⟩
theorem vd_ {i:Nat} {a b:VT} {t:Bool} (h:Y.v i=some (.bool t)) (h1:t=true->VOK P Q L Y a) (h2:t=false->VOK P Q L Y b):VOK P Q L Y (.ite i a b):=⟨t,h,h1,h2⟩
theorem uH_ {f:FuncId} {args:List AV} {n:Nat} {sh:List (Option Nat)} {t:VT} {v:AV} {vs:List AV} (h1:jz_ P f (ab_ Y.v args) v) (h2:hz_ sh v=some vs) (h3:okL vs=true) (h4:VOK P Q L (Y.puts n vs) t):VOK P Q L Y (.call f args n sh t):=
 ⟨v,vs,h1,h2,h3,h4⟩
theorem vc_ {k:Chk} {t:VT} (h:k.ok Y) (h1:VOK P Q L Y t):VOK P Q L Y (.chk k t):=⟨h,h1⟩
theorem uv_ {f:FuncId} {ft:FT} {hv:List AV} {n:Nat} {bs:VTs} {R:Nat->List AV->Prop} (h1:CF P f ft (ab_ Y.v hv) R) (h2:okL (ab_ Y.v hv)=true) (h3:sm_ P Q R L (Y.puts n (ab_ Y.v hv)) (Nat.add n ft.ent.nv) 0 bs):VOK P Q L Y (.callF f ft hv n bs):=⟨R,h1,h2,h3⟩
theorem VOK_fin {R:Nat->List AV->Prop} {j:Nat} {hv:List AV} (h1:okL (ab_ Y.v hv)=true) (h:R j (ab_ Y.v hv)):VOK P (QF R) L Y (.done (.tup (.int .i64 (.ofNat j)::hv))):=⟨j,_,rfl,h1,h⟩
theorem uI_ {v:AV} (h:Q (den Y.v v)):VOK P Q L Y (.done v):=h
theorem uu_ {lvl j:Nat} {hv:List AV} {R:Nat->List AV->Prop} (h1:L[lvl]? =some R) (h2:R j (ab_ Y.v hv)):VOK P Q L Y (.again lvl j hv):=⟨R,h1,h2⟩
open Classical in
theorem uJ_ {ι:Type} (st:ι->List AV) (p:ι->Prop) (μ:ι->Nat) (i0:ι) (h0:p i0) {n nv:Nat} {hv:List AV} {t:VT} (he:ab_ Y.v hv=st i0) (hok:∀i,p i->okL (st i)=true)
  (hμ:∀i j,p i->p j->st i=st j->μ i=μ j) (hb:∀i,p i->VOK P Q (L++[λ_ vs=>∃i',p i'/\vs=st i'/\μ i'<μ i]) (Y.puts n (st i)) t):VOK P Q L Y (.loop n 0 hv (.cons nv t .nil)):=by
 let m:List AV->Nat:=λvs=>if h:∃i,p i/\vs=st i then μ (Classical.choose h)else 0
 have hm:∀i,p i->m (st i)=μ i:=λi hi=>by have h:∃j,p j/\st i=st j:=⟨i,hi,rfl⟩;simp only [m,dif_pos h];obtain ⟨h1,h2⟩:=Classical.choose_spec h;exact hμ _ _ h1 hi h2.symm
 refine ⟨λ_ vs=>∃i,p i/\vs=st i,λ_ vs=>m vs,λj vs ⟨i,h1,h2⟩=>by rw [h2];exact hok i h1,⟨i0,h0,he⟩,λvs hvs hI=>?_,trivial⟩;obtain ⟨i,h1,h2⟩:=hI;subst h2;have e:(λ(_:Nat) (vs':List AV)=>(∃i',p i'/\vs'=st i')/\m vs'<m (st i))=λ_ vs'=>∃i',p i'/\vs'=st i'/\μ i'<μ i:=by
  funext _ vs'
  refine propext ⟨λh=>?_,λh=>?_⟩;obtain ⟨⟨i',g1,g2⟩,g3⟩:=h;subst g2;rw [hm i' g1,hm i h1]at g3;exact ⟨i',g1,rfl,g3⟩;obtain ⟨i',g1,g2,g3⟩:=h;subst g2;exact ⟨⟨i',g1,rfl⟩,by rw [hm i' g1,hm i h1];exact g3⟩
 simp only [e];exact hb i h1
end
theorem g9_:∀(n:Nat) (sh:List (Option Nat)),ad_ (bu_ n sh)=true
 |_,[]=>rfl
 |n,none::s=>by simp only [bu_,ad_,ae_];exact g9_ _ s
 |n,some m::s=>by simp only [bu_,ad_,ae_,hK_];exact g9_ _ s
theorem gL_:∀{sh:List (Option Nat)} {l vs:List AV},flat sh l=some vs->okL vs=true->mQ_ l=true
 |[],[],vs,h,_=>rfl
 |none::s,a::r,vs,h,hok=>by unfold flat at h;split at h;rename_i l' hl;cases h;rw [aX_]at hok;obtain ⟨k1,k2⟩:=aa_ hok;simp only [mQ_,sP_ k1,gL_ hl k2];cases h
 |some m::s,a::r,vs,h,hok=>by have ha:∃cs,a=.agg cs:=(by cases a<;>first|exact ⟨_,rfl⟩|(cases h));obtain ⟨cs,rfl⟩:=ha;simp only [flat]at h;split at h;split at h;rename_i l' hl;cases h;obtain ⟨k1,k2⟩:=fL_ hok;simp only [mQ_,okI,k1,gL_ hl k2];cases h;cases h
 |[],_::_,vs,h,_=>by cases h
 |none::_,[],vs,h,_=>by cases h
 |some _::_,[],vs,h,_=>by cases h
theorem fF_ {s:Nat->Option AV}:∀(sh:List (Option Nat)) (n:Nat) (l vs:List AV),flat sh l=some vs->(∀i a,vs[i]? =some a->s (n+i)=some a)->ab_ s (bu_ n sh)=l
 |[],n,[],vs,h,_=>rfl
 |none::sh,n,a::r,vs,h,hs=>by unfold flat at h;split at h;rename_i l' hl;cases h;have h0:s n=some a:=(by simpa using hs 0 a rfl);simp only [bu_,ab_,den,h0];rw [fF_ sh (n+1) r l' hl λi b hb=>by have:=hs (i+1) b (by simpa using hb);rw [show n+1+i=n+(i+1) by omega];exact this];cases h
 |some m::sh,n,a::r,vs,h,hs=>by have ha:∃cs,a=.agg cs:=(by cases a<;>first|exact ⟨_,rfl⟩|(cases h));obtain ⟨cs,rfl⟩:=ha;simp only [flat]at h;split at h;rename_i hd;have hd:cs.length=m:=of_decide_eq_true hd;subst hd;split at h;rename_i l' hl;cases h;simp only [bu_,ab_,den];show AV.agg (ab_ s (ai_ n cs.length))::ab_ s (bu_ (n+cs.length) sh)=_;rw [fF_ sh (n+cs.length) r l' hl λi b hb=>by have:=hs (cs.length+i) b (by rw [List.getElem?_append_right (by omega)];simpa using hb);rw [show n+cs.length+i=n+(cs.length+i) by omega];exact this];rw [den_symsL n cs λi b hb=>hs i b (by rw [List.getElem?_append_left (by exact (List.getElem?_eq_some_iff.1 hb).1)];exact hb)];cases h;cases h
 |[],_,_::_,vs,h,_=>by cases h
 |none::_,_,[],vs,h,_=>by cases h
 |some _::_,_,[],vs,h,_=>by cases h
where
 den_symsL {s:Nat->Option AV}:∀(n:Nat) (cs:List AV),(∀i a,cs[i]? =some a->s (n+i)=some a)->ab_ s (ai_ n cs.length)=cs
 |n,[],_=>rfl
 |n,a::r,h=>by have h0:s n=some a:=(by simpa using h 0 a rfl);simp only [List.length_cons,ai_,ab_,den,h0];rw [den_symsL (n+1) r λi b hb=>by have:=h (i+1) b (by simpa using hb);rw [show n+1+i=n+(i+1) by omega];exact this]
theorem t7_ [Gl] {P:Program} (hm:P.follows .mixedOrders=true) (ho:kQ_ P) {f:FuncId} {args ls:List AV} {sh:List (Option Nat)} {v:AV} {c:VC} {n m:Nat} {t:VT} (hfl:flat sh args=some ls) (hls:okL ls=true) (hv:aS_ v=true)
  (hk:∀Y,Fresh Y 64->KnownF P c.fc (Y.puts 64 ls)) (hm':64+cQ_ sh=m) (ht:vFn P n c f (bu_ 64 sh) m=t) (h:∀Y,Fresh Y 64->Gl.gt Y.v->VOK P (· =v) [] (Y.puts 64 ls) t):jz_ P f args v:=
 pure_sym (args':=bu_ 64 sh) (gL_ hfl hls) hv (g9_ _ _) hls (λY hf=>fF_ sh 64 args ls hfl λi a ha=>bJ_ ls hf i a ha) λY hf hg=>
  (r8_ (c:=c) (n:=m) hm (dc_ hm ho n) ⟨by have:=(hf.puts ls).1;rw [eH_ hfl,hm']at this;exact this,hk Y hf⟩ (by rw [ht];exact h Y hf hg)).low
theorem uY_ [Gl] {P:Program} (hm:P.follows .mixedOrders=true) (ho:kQ_ P) {f:FuncId} {args args' ls:List AV} {v:AV} {c:VC} {n m:Nat} {t:VT} (hok:mQ_ args=true) (hso:ad_ args'=true) (hls:okL ls=true) (hv:aS_ v=true)
  (hden:∀Y,Fresh Y 64->ab_ (Y.puts 64 ls).v args'=args) (hk:∀Y,Fresh Y 64->KnownF P c.fc (Y.puts 64 ls)) (hm':64+ls.length=m) (ht:vFn P n c f args' m=t) (h:∀Y,Fresh Y 64->Gl.gt Y.v->VOK P (· =v) [] (Y.puts 64 ls) t):jz_ P f args v:=
 pure_sym (args':=args') hok hv hso hls hden λY hf hg=>
  (r8_ (c:=c) (n:=m) hm (dc_ hm ho n) ⟨by have:=(hf.puts ls).1;rw [hm']at this;exact this,hk Y hf⟩ (by rw [ht];exact h Y hf hg)).low
theorem vD_ [Gl] {P:Program} (Y:Sy):KnownF P ⟨[],[]⟩ Y:=⟨λf h=>(List.not_mem_nil h).elim,λf h=>(List.not_mem_nil h).elim⟩
def cf_ {α:Type} (enc:α->List AV):List α->List AV
 |[]=>[]
 |a::r=>enc a++cf_ enc r
def c2_ {α:Type} (enc:α->List AV) (w:Nat) (l:List α):AV:=match l with
 |[]=>.nsl
 |a::r=>.vsl (r.length+1) w (cf_ enc (a::r))
section
variable {α:Type} {enc:α->List AV} {w:Nat}
theorem ht_:∀a b:List α,cf_ enc (a++b)=cf_ enc a++cf_ enc b
 |[],b=>rfl
 |x::r,b=>by simp only [List.cons_append,cf_,ht_ r b,List.append_assoc]
theorem ez_ (hw:∀a,(enc a).length=w):∀l:List α,(cf_ enc l).length=l.length*w
 |[]=>by simp [cf_]
 |a::r=>by simp only [cf_,List.length_append,hw,ez_ hw r,List.length_cons,Nat.add_mul];omega
theorem j8_ (hw:∀a,(enc a).length=w):∀(l:List α) (i:Nat),(cf_ enc l).drop (i*w)=cf_ enc (l.drop i)
 |l,0=>by simp
 |[],i+1=>by simp [cf_]
 |a::r,i+1=>by simp only [cf_,List.drop_succ_cons];rw [←j8_ hw r i,Nat.add_mul,Nat.one_mul,Nat.add_comm,←List.drop_drop,List.drop_left' (hw a)]
theorem oL_ (h:∀a,okL (enc a)=true):∀l:List α,okL (cf_ enc l)=true
 |[]=>rfl
 |a::r=>okL_join (h a) (oL_ h r)
where
 okL_join:∀{a b:List AV},okL a=true->okL b=true->okL (a++b)=true
 |[],b,_,h=>h
 |x::r,b,h1,h2=>by rw [aX_]at h1;obtain ⟨k1,k2⟩:=aa_ h1;rw [List.cons_append,aX_,k1,okL_join k2 h2];rfl
mutual
theorem qf_:∀{a:AV},okC a=true->aS_ a=true
 | .opq,h=>by simp [okC]at h
 | .bool _,_=>rfl
 | .int _ _,_=>rfl
 | .flt _ _,_=>rfl
 | .nan _,_=>rfl
 | .str _,_=>rfl
 | .nptr,_=>rfl
 | .ptr _ _,h=>by simp [okC]at h
 | .vptr cs,h=>by simp only [okC]at h;simp only [aS_];exact ca_ h
 | .nsl,_=>rfl
 | .sl ..,h=>by simp [okC]at h
 | .vsl _ _ cs,h=>by simp only [okC]at h;simp only [aS_];exact ca_ h
 | .nmap,_=>rfl
 | .map _,h=>by simp [okC]at h
 | .nfn,_=>rfl
 | .fn _ cs,h=>by simp only [okC]at h;simp only [aS_];exact ca_ h
 | .nif,_=>rfl
 | .iface _ a,h=>by simp only [okC]at h;simp only [aS_];exact kx_ h
 | .agg _,h=>by simp [okC]at h
 | .tup _,h=>by simp [okC]at h
 | .sym _,h=>by simp [okC]at h
 | .slx ..,h=>by simp [okC]at h
 | .ptx ..,h=>by simp [okC]at h
theorem kx_:∀{a:AV},okI a=true->aS_ a=true
 | .opq,h=>by simp [okI]at h
 | .bool _,_=>rfl
 | .int _ _,_=>rfl
 | .flt _ _,_=>rfl
 | .nan _,_=>rfl
 | .str _,_=>rfl
 | .nptr,_=>rfl
 | .ptr _ _,h=>by simp [okI]at h
 | .vptr cs,h=>by simp only [okI]at h;simp only [aS_];exact ca_ h
 | .nsl,_=>rfl
 | .sl ..,h=>by simp [okI]at h
 | .vsl _ _ cs,h=>by simp only [okI]at h;simp only [aS_];exact ca_ h
 | .nmap,_=>rfl
 | .map _,h=>by simp [okI]at h
 | .nfn,_=>rfl
 | .fn _ cs,h=>by simp only [okI]at h;simp only [aS_];exact ca_ h
 | .nif,_=>rfl
 | .iface _ a,h=>by simp only [okI]at h;simp only [aS_];exact kx_ h
 | .agg cs,h=>by simp only [okI]at h;simp only [aS_];exact ca_ h
 | .tup _,h=>by simp [okI]at h
 | .sym _,h=>by simp [okI]at h
 | .slx ..,h=>by simp [okI]at h
 | .ptx ..,h=>by simp [okI]at h
theorem ca_:∀{l:List AV},okL l=true->cK_ l=true
 |[],_=>rfl
 |a::r,h=>by rw [aX_]at h;obtain ⟨h1,h2⟩:=aa_ h;simp only [cK_,qf_ h1,ca_ h2]
end
variable {P:Program} {t e:TypeId} {ti:TypeInfo}
theorem ud_ (ht:P.underlying t=some (.slice e)) (l:List α):(XOp.len t).run P [c2_ enc w l]=some (.int .i64 (l.length:Int)):=by
 cases l with
 |nil=>show cg_ P h0 t .nsl=_;unfold cg_;rw [ht];rfl
 |cons a r=>show cg_ P h0 t (.vsl (r.length+1) w (cf_ enc (a::r)))=_;unfold cg_;rw [ht];rfl
theorem run_iaddr_sl (ht:P.underlying t=some (.slice e)) (hi:P.info? e=some ti) (hs:ti.size=w) (hw:∀a,(enc a).length=w) {l:List α} {i:Nat} (h:i<l.length) (k:IntKind):
  (XOp.iaddr t).run P [c2_ enc w l,.int k (i:Int)]=some (.vptr (cf_ enc (l.drop i))):=by
 cases l with
 |nil=>simp at h
 |cons a r=>show aR_ P t (.vsl (r.length+1) w _) (.int k (.ofNat i))=_;unfold aR_;have hb:Nat.blt i (r.length+1)=true:=(by simpa [Nat.blt_eq]using h);simp only [ht,hi,idx,hb,hs,as_];have:=j8_ hw (a::r) i;show some (AV.vptr ((cf_ enc (a::r)).drop (i*w)))=_;rw [this]
theorem hL_:∀(a b:List AV),a7_ a.length (a++b)=some a
 |[],b=>rfl
 |x::r,b=>by simp only [List.length_cons,List.cons_append,a7_,hL_ r b]
theorem run_load_agg {d:TypeDesc} (ht:P.underlying t=some d) (ha:lR_ d=true) (hi:P.info? t=some ti) (hs:ti.size=w) (hw:∀a,(enc a).length=w) {l:List α} {i:Nat} (h:i<l.length):
  (XOp.load t).run P [.vptr (cf_ enc (l.drop i))]=some (.agg (enc l[i])):=by
 show bl_ P h0 t (.vptr _)=_;unfold bl_ aU_;rw [List.drop_eq_getElem_cons h];simp only [ht,ha,hi,hs,cf_];rw [←hw l[i],hL_]
theorem s1_ {d:TypeDesc} (ht:P.underlying t=some d) (ha:lR_ d=false) (x:AV) (r:List AV):(XOp.load t).run P [.vptr (x::r)]=some x:=by show bl_ P h0 t (.vptr _)=_;unfold bl_ aU_;simp only [ht,ha,a7_]
theorem ua_ {sz bytes:Nat} (hw:∀a,(enc a).length=sz) (hsz:0<sz) (hb:0<bytes) (l:List α) (a:α) (hl:(l.length+1)*bytes<=1073741824):(XOp.app sz bytes).run P [c2_ enc sz l,.agg (enc a)]=some (c2_ enc sz (l++[a])):=by
 have h1:Nat.div (aZ_ (enc a)) sz=1:=by rw [ah_,hw];exact Nat.div_self hsz
 have hl1:l.length+1<=1073741824:=Nat.le_trans (Nat.le_mul_of_pos_right _ hb) hl;show (match bG_ sz (.agg (enc a))with|some (n,l')=>kS_ sz bytes (c2_ enc sz l) n l'|none=>none)=_;simp only [bG_,h1];unfold kS_;have hd:decide ((enc a).length=1*sz)=true:=by rw [hw,Nat.one_mul];exact decide_eq_true rfl
 simp only [hd];cases l with
 |nil=>have c1:(Nat.ble (Nat.mul 1 bytes) 1073741824&&Nat.ble 1 1073741824&&Nat.blt 0 bytes)=true:=(by simp only [List.length_nil,Nat.zero_add,Nat.one_mul]at hl;simp [Nat.ble_eq,Nat.blt_eq,hb,hl]);simp only [c2_,c1,List.nil_append,List.length_nil,cf_,List.append_nil]
 |cons b r=>have hd2:decide (sz=sz/\(cf_ enc (b::r)).length=(r.length+1)*sz)=true:=decide_eq_true ⟨rfl,ez_ hw (b::r)⟩;have c1:(Nat.ble (Nat.mul (Nat.add (r.length+1) 1) bytes) 1073741824&&Nat.ble (Nat.add (r.length+1) 1) 1073741824&&Nat.blt 0 bytes)=true:=(by have e1:Nat.mul (Nat.add (r.length+1) 1) bytes=(r.length+1+1)*bytes:=rfl;have e2:Nat.add (r.length+1) 1=r.length+1+1:=rfl;rw [e1,e2];simp only [List.length_cons]at hl hl1;simp [Nat.ble_eq,Nat.blt_eq,hb,hl,hl1]);have hlen:(cf_ enc (b::r)).length=(r.length+1)*sz:=ez_ hw (b::r);have e3:cf_ enc (b::(r++[a]))=cf_ enc (b::r)++enc a:=(by rw [←List.cons_append,ht_];simp only [cf_,List.append_nil]);have e4:(r++[a]).length+1=Nat.add (r.length+1) 1:=(by simp);simp only [c2_,hlen,true_and,decide_true,c1,List.cons_append,e3,e4]
end
def sf_ {α:Type} (enc:α->List AV) (w:Nat) (l:List α):AV:=.vsl l.length w (cf_ enc l)
def SlV {α:Type} (enc:α->List AV) (w:Nat) (l:List α) (a:AV):Prop:=a=sf_ enc w l\/(l=[]/\a=.nsl)
section
variable {α:Type} {enc:α->List AV} {w:Nat}
theorem SlV.of (l:List α):SlV enc w l (c2_ enc w l):=by
 cases l with
 |nil=>exact .inr ⟨rfl,rfl⟩
 |cons a r=>exact .inl rfl
theorem SlV.v (l:List α):SlV enc w l (sf_ enc w l):=.inl rfl
theorem SlV.eq {l:List α} {a:AV} (h:SlV enc w l a) (hl:l≠[]):a=c2_ enc w l:=by
 rcases h with h|⟨h,_⟩
 .rw [h];cases l with
  |nil=>exact absurd rfl hl
  |cons a r=>rfl
 exact absurd h hl
theorem sg_ (h:∀a,okL (enc a)=true) (l:List α):okC (sf_ enc w l)=true:=by show okL (cf_ enc l)=true;exact oL_ h l
theorem SlV.ok {l:List α} {a:AV} (h:SlV enc w l a) (he:∀a,okL (enc a)=true):okC a=true:=by rcases h with h|⟨_,h⟩;rw [h];exact sg_ he l;rw [h];rfl
variable {P:Program} {t e:TypeId} {ti:TypeInfo}
theorem SlV.len {l:List α} {a:AV} (h:SlV enc w l a) (ht:P.underlying t=some (.slice e)):(XOp.len t).run P [a]=some (.int .i64 (l.length:Int)):=by rcases h with h|⟨h1,h⟩;subst h;show cg_ P h0 t (.vsl l.length w (cf_ enc l))=_;unfold cg_;rw [ht];rfl;subst h h1;show cg_ P h0 t .nsl=_;unfold cg_;rw [ht];rfl
theorem SlV.ia {l:List α} {a:AV} (h:SlV enc w l a) (ht:P.underlying t=some (.slice e)) (hi:P.info? e=some ti) (hs:ti.size=w) (hw:∀a,(enc a).length=w) {i:Nat} (hl:i<l.length) (k:IntKind):
  (XOp.iaddr t).run P [a,.int k (i:Int)]=some (.vptr (cf_ enc (l.drop i))):=by
 rw [h.eq (λe=>by rw [e]at hl;simp at hl)];exact run_iaddr_sl ht hi hs hw hl k
end
end Go.Sx
namespace Go.Sx
def dk_ (n:Nat):Bool:=decide (9218868437227405312<n%9223372036854775808)
theorem cv_ (n:Nat):(dk_ n=true/\∃s q,Ieee.double.read n=.nan s q)\/(dk_ n=false/\n%9223372036854775808=0/\∃s,Ieee.double.read n=.number s 0 Ieee.double.leastPlace)\/
  (dk_ n=false/\n%9223372036854775808≠0/\((∃s m i,0<m/\Ieee.double.leastPlace<=i/\Ieee.double.read n=.number s m i)\/∃s,Ieee.double.read n=.infinity s)):=by
 have e1:Ieee.double.signWeight=9223372036854775808:=rfl;have e2:Ieee.double.infRung=9218868437227405312:=rfl;have e3:Ieee.double.binade=4503599627370496:=rfl;unfold Ieee.Format.read dk_;simp only [e1,e2,e3];generalize n%9223372036854775808=r;by_cases h1:r<4503599627370496;rw [if_pos h1];by_cases h0:r=0;subst h0;exact .inr (.inl ⟨rfl,rfl,_,rfl⟩);exact .inr (.inr ⟨by simp;omega,h0,.inl ⟨_,_,_,by omega,Int.le_refl _,rfl⟩⟩);rw [if_neg h1];by_cases h2:r<9218868437227405312;rw [if_pos h2];exact .inr (.inr ⟨by simp;omega,by omega,.inl ⟨_,_,_,by omega,by omega,rfl⟩⟩);rw [if_neg h2];by_cases h3:r=9218868437227405312;rw [if_pos h3];exact .inr (.inr ⟨by simp;omega,by omega,.inr ⟨_,rfl⟩⟩);rw [if_neg h3];exact .inl ⟨by simp;omega,_,_,rfl⟩
theorem jM_ (s:Bool) (up:Nat):Ieee.signed s 0 up=0:=by
 unfold Ieee.signed;have:(0:Nat)<<<up=0:=by rw [Nat.shiftLeft_eq,Nat.zero_mul]
 rw [this];split<;>rfl
theorem oc_ (n:Nat):(Ieee.double.order n n==some .eq)= !dk_ n:=by
 unfold Ieee.Format.order;rcases cv_ n with ⟨h,s,q,e⟩|⟨h,_,s,e⟩|⟨h,_,⟨s,m,i,hm,hi,e⟩|⟨s,e⟩⟩;rw [e,h];simp [Ieee.Datum.order];rw [e,h];simp only [Ieee.Datum.order,jM_];rfl;rw [e,h];simp only [Ieee.Datum.order];rw [Int.compare_eq_eq.2 rfl];rfl
 .rw [e,h];simp only [Ieee.Datum.order];cases s<;>rfl
section
variable {P:Program} {t:TypeId}
theorem sw_ (a b:List UInt8):eqB a b=decide (a=b):=by
 by_cases h:a=b
 .subst h;rw [decide_eq_true rfl];exact by rw [d3_];exact beq_self_eq_true a
 .rw [decide_eq_false h];cases hb:eqB a b with
  |false=>rfl
  |true=>exact absurd (by rw [d3_]at hb;exact eq_of_beq hb) h
theorem vq_ (cx cy:Bool) (a b:List UInt8):(XOp.bin .neq t cx cy).run P [.str a,.str b]=some (.bool (!decide (a=b))):=by show some (AV.bool (not (eqB a b)))=_;rw [sw_]
theorem tG_ {s d:TypeId} {ds:TypeDesc} {k j:IntKind} (hs:P.underlying s=some ds) (hd:P.underlying d=some (.int k)) (n:Int):(XOp.conv s d).run P [.int j n]=some (.int k (k.wrap n)):=by show b6_ P h0 s d (.int j n)=_;unfold b6_ e8_;simp only [hs,hd,dj_,cG_]
end
theorem qR_ (s:Bool) (n drop:Nat):Ieee.Toward.zero.cut s n drop=n/2^drop:=by unfold Ieee.Toward.cut;simp only [Bool.toNat_false,Nat.add_zero,Nat.one_shiftLeft];by_cases h:drop<=n.log2+2;rw [Nat.min_eq_left h];rw [Nat.min_eq_right (by omega)];have h1:n<2^(n.log2+1):=Nat.lt_log2_self;have h2:2^(n.log2+1)<=2^(n.log2+2):=Nat.pow_le_pow_right (by omega) (by omega);have h3:2^(n.log2+2)<=2^drop:=Nat.pow_le_pow_right (by omega) (by omega);rw [Nat.div_eq_of_lt (by omega),Nat.div_eq_of_lt (by omega)]
def hm_ (m:Nat) (i:Int):Nat:=(m<<<i.toNat)/2^(-i).toNat
theorem lI_ (s:Bool) (m:Nat) (i:Int):(Ieee.Datum.number s m i).toInt .zero=some (if s then -(hm_ m i:Int)else (hm_ m i:Int)):=by unfold Ieee.Datum.toInt Ieee.Datum.integral;simp only [qR_,Ieee.signed,Nat.shiftLeft_zero];rfl
theorem kN_ (m:Nat) (i:Int) (T:Nat) (hT:i.natAbs<=T):hm_ m i*2^T<=m*2^(i+T).toNat:=by unfold hm_;rw [Nat.shiftLeft_eq];rcases Int.le_total 0 i with h|h;have e1:(-i).toNat=0:=(by omega);have e2:(i+T).toNat=i.toNat+T:=(by omega);rw [e1,e2,Nat.pow_zero,Nat.div_one,Nat.pow_add,Nat.mul_assoc];exact Nat.le_refl _;have e1:i.toNat=0:=(by omega);have e2:T=(-i).toNat+(i+T).toNat:=(by omega);rw [e1,Nat.pow_zero,Nat.mul_one];generalize (-i).toNat=a at*;generalize (i+T).toNat=b at*;rw [e2,Nat.pow_add,←Nat.mul_assoc];exact Nat.mul_le_mul_right _ (Nat.div_mul_le_self ..)
theorem ri_ {m n:Nat} {i j:Int} (T:Nat) (hi:i.natAbs<=T) (hj:j.natAbs<=T):m<<<(i-min i j).toNat<n<<<(j-min i j).toNat↔m*2^(i+T).toNat<n*2^(j+T).toNat:=by
 have e1:(i+T).toNat=(i-min i j).toNat+(min i j+T).toNat:=by omega
 have e2:(j+T).toNat=(j-min i j).toNat+(min i j+T).toNat:=by omega
 rw [e1,e2,Nat.shiftLeft_eq,Nat.shiftLeft_eq,Nat.pow_add,Nat.pow_add,←Nat.mul_assoc,←Nat.mul_assoc];exact (Nat.mul_lt_mul_right (Nat.pow_pos (by omega))).symm
theorem sk_ {m k:Nat} {i j:Int} (hk:(k:Int)=52+j) (h:m<<<(i-min i j).toNat<4503599627370496<<<(j-min i j).toNat):hm_ m i<2^k:=by
 have h1:=(ri_ (i.natAbs+j.natAbs) (by omega) (by omega)).1 h;have h2:=kN_ m i (i.natAbs+j.natAbs) (by omega);have e:4503599627370496*2^(j+(i.natAbs+j.natAbs:Nat)).toNat=2^k*2^(i.natAbs+j.natAbs):=by
  have:(4503599627370496:Nat)=2^52:=(by decide);rw [this,←Nat.pow_add,←Nat.pow_add]
  congr 1
  omega
 rw [e]at h1;exact Nat.lt_of_mul_lt_mul_right (Nat.lt_of_le_of_lt h2 h1)
theorem sj_ {m k:Nat} {i j:Int} (hk:(k:Int)=52+j) (h:m<<<(i-min i j).toNat<=4503599627370496<<<(j-min i j).toNat):hm_ m i<=2^k:=by
 have h1:¬(4503599627370496*2^(j+(i.natAbs+j.natAbs:Nat)).toNat<m*2^(i+(i.natAbs+j.natAbs:Nat)).toNat):=λhh=>by have:=(ri_ (m:=4503599627370496) (n:=m) (i:=j) (j:=i) (i.natAbs+j.natAbs) (by omega) (by omega)).2 hh;rw [Int.min_comm j i]at this;omega
 have h2:=kN_ m i (i.natAbs+j.natAbs) (by omega);have e:4503599627370496*2^(j+(i.natAbs+j.natAbs:Nat)).toNat=2^k*2^(i.natAbs+j.natAbs):=by
  have:(4503599627370496:Nat)=2^52:=(by decide);rw [this,←Nat.pow_add,←Nat.pow_add]
  congr 1
  omega
 rw [e]at h1;exact Nat.le_of_mul_le_mul_right (Nat.le_trans h2 (Nat.le_of_not_lt h1)) (Nat.pow_pos (by omega))
theorem ni_ {b lo hi k:Nat} {j:Int} (hk:(k:Int)=52+j) (hlo:Ieee.double.read lo=.number true 4503599627370496 j) (hhi:Ieee.double.read hi=.number false 4503599627370496 j)
  (h1:Ieee.double.order b lo≠some .lt) (h2:Ieee.double.order b hi=some .lt):∃n:Int,(Ieee.double.read b).toInt .zero=some n/\ -((2^k:Nat):Int)<=n/\n<((2^k:Nat):Int):=by
 unfold Ieee.Format.order at h1 h2;rw [hlo]at h1;rw [hhi]at h2;cases hb:Ieee.double.read b with
 |nan s t=>rw [hb]at h2;cases h2
 |infinity s=>rw [hb]at h1 h2;cases s;exact absurd h2 (by simp [Ieee.Datum.order]);exact absurd rfl h1
 |number s m i=>
  rw [hb]at h1 h2;simp only [Ieee.Datum.order,Option.some.injEq,ne_eq]at h1 h2;have h2:=Int.compare_eq_lt.1 h2;have h1:¬_:=λhh=>h1 (Int.compare_eq_lt.2 hh);refine ⟨_,lI_ s m i,?_⟩;cases s with
  |false=>simp only [Ieee.signed,Bool.false_eq_true,if_false]at h2⊢;have:=sk_ hk (m:=m) (i:=i) (j:=j) (by omega);omega
  |true=>simp only [Ieee.signed,if_true]at h1⊢;have:=sj_ hk (m:=m) (i:=i) (j:=j) (by omega);have:0<2^k:=Nat.pow_pos (by omega);omega
theorem od_ {a b:Nat} (ha:dk_ a=false) (hb:dk_ b=false):∃o,Ieee.double.order a b=some o:=by
 unfold Ieee.Format.order;rcases cv_ a with ⟨h,_⟩|⟨_,_,s,e⟩|⟨_,_,⟨s,m,i,hm,hi,e⟩|⟨s,e⟩⟩;rw [ha]at h;cases h;all_goals
  rw [e];rcases cv_ b with ⟨h,_⟩|⟨_,_,t,f⟩|⟨_,_,⟨t,n,j,hn,hj,f⟩|⟨t,f⟩⟩;rw [hb]at h;cases h;all_goals
   rw [f];exact ⟨_,rfl⟩
theorem uz_ {n:Nat}:(Ieee.double.read n).isNaN=dk_ n:=by rcases cv_ n with ⟨h,s,q,e⟩|⟨h,_,s,e⟩|⟨h,_,⟨s,m,i,hm,hi,e⟩|⟨s,e⟩⟩;all_goals rw [e,h];rfl
theorem iW_ (s:Bool) {r:Nat} (h:r<=9218868437227405312):dk_ (Ieee.double.word s r)=false:=by have e1:Ieee.double.signWeight=9223372036854775808:=rfl;unfold dk_ Ieee.Format.word;rw [e1];cases s;simp;omega;simp;omega
theorem hF_ (s:Bool) (m:Nat) (i:Int):dk_ (Ieee.double.nearest s m i)=false:=by have e2:Ieee.double.infRung=9218868437227405312:=rfl;unfold Ieee.Format.nearest;split;exact iW_ s (Nat.zero_le _);refine iW_ s ?_;rw [e2];exact Nat.min_le_right _ _
def jr_ (b:Nat):Nat:=Ieee.double.write ((Ieee.double.read b).integral .zero)
theorem qa_ {b:Nat} (h:dk_ b=false):dk_ (jr_ b)=false:=by unfold jr_;rcases cv_ b with ⟨h',_⟩|⟨_,_,s,e⟩|⟨_,_,⟨s,m,i,hm,hi,e⟩|⟨s,e⟩⟩;rw [h]at h';cases h';rw [e];exact hF_ ..;rw [e];exact hF_ ..;rw [e];exact iW_ s (Nat.le_refl _)
theorem sW_ {P:Program} {k:IntKind} {x c:Int} (hc:c≠0) (t:TypeId) (cx cy:Bool):bI_ P .quo t cx cy (.int k x) (.int k c)=some (.int k (k.wrap (x.tdiv c))):=by show cU_ P .quo k x k c=_;have hb:Nat.beq (kix k) (kix k)=true:=Nat.beq_refl _;unfold cU_;rw [hb];show (match (none:Option AV)with|some r=>some r|none=>eC_ P .quo k x k c)=_;simp only;unfold eC_;simp only [binOp,Op.intDiv,hc,ne_eq,not_true_eq_false,if_false];rfl
section
variable {P:Program}
theorem vs_ {k:IntKind} {x c:Int} (hc:c≠0) (t:TypeId) (cx cy:Bool):(XOp.bin .quo t cx cy).run P [.int k x,.int k c]=some (.int k (k.wrap (x.tdiv c))):=sW_ hc t cx cy
theorem u4_ {k:IntKind} {x c:Int} (hc:c≠0) (t:TypeId) (cx cy:Bool):(XOp.bin .rem t cx cy).run P [.int k x,.int k c]=some (.int k (x.tmod c)):=s0_ hc rfl t cx cy
theorem vp_ {k:IntKind} {x:Int}:(XOp.un .neg).run P [.int k x]=some (.int k (k.wrap (0-x))):=by show ke_ .neg (.int k x)=_;unfold ke_;simp only [dj_,cG_]
theorem m4_ {s d:TypeId} {ds:TypeDesc} {k:FloatKind} {j:IntKind} (hs:P.underlying s=some ds) (hd:P.underlying d=some (.int j)) {b:Nat} {n:Int} (h:(k.decode b).toInt .zero=some n) (h1:j.min<=n) (h2:n<=j.max):(XOp.conv s d).run P [.flt k b]=some (.int j n):=by show b6_ P h0 s d (.flt k b)=_;unfold b6_ e8_;have:decide (j.min<=n/\n<=j.max)=true:=decide_eq_true ⟨h1,h2⟩;simp only [hs,hd,h,this]
end
def fv (o:Option Nat):AV:=mkF .f64 o
theorem vN_ (o:Option Nat):okC (fv o)=true:=by cases o<;>rfl
def n7_:Option Nat->Bool
 |none=>true
 |some b=>dk_ b
def ordF (a b:Option Nat):Option Ordering:=fOrd .f64 a b
theorem u3_ (P:Program) (op:BinOp) (t:TypeId) (cx cy:Bool) (a b:Option Nat):(XOp.bin op t cx cy).run P [fv a,fv b]=oT_ op .f64 a b:=by show bI_ P op t cx cy (fv a) (fv b)=_;cases a<;>cases b<;>(unfold bI_;simp only [fv,mkF,iw_,flA,decide_true])
theorem uB_ (a:Option Nat):(ordF a a==some .eq)= !n7_ a:=by
 cases a with
 |none=>rfl
 |some b=>exact oc_ b
theorem uX_ {a b:Option Nat} (h:n7_ a=true):ordF a b=none:=by
 cases a with
 |none=>rfl
 |some x=>cases b with
  |none=>rfl
  |some y=>show Ieee.double.order x y=none;unfold Ieee.Format.order;rcases cv_ x with ⟨_,s,q,e⟩|⟨h',_⟩|⟨h',_⟩;rw [e];rfl;rw [show dk_ x=true from h]at h';cases h';rw [show dk_ x=true from h]at h';cases h'
theorem uC_ {a b:Option Nat} (h:n7_ a=false) (h2:n7_ b=false):∃o,ordF a b=some o:=by
 cases a with
 |none=>cases h
 |some x=>cases b with
  |none=>cases h2
  |some y=>exact od_ h h2
def ui_:Option Nat->Option Nat
 |none=>none
 |some b=>if dk_ b=true then none else some (jr_ b)
theorem uj_ (a:Option Nat):n7_ (ui_ a)=n7_ a:=by
 cases a with
 |none=>rfl
 |some b=>show n7_ (if dk_ b=true then none else some (jr_ b))=dk_ b;by_cases h:dk_ b=true;rw [if_pos h,h];rfl;have h':dk_ b=false:=(by simpa using h);rw [if_neg h];show dk_ (jr_ b)=dk_ b;rw [qa_ h',h']
def si_ (a:Option Nat):Option Int:=match a with
 |none=>none
 |some b=>(Ieee.double.read b).toInt .zero
theorem tk_ {a:Option Nat} {lo hi k:Nat} {j:Int} (hk:(k:Int)=52+j) (hlo:Ieee.double.read lo=.number true 4503599627370496 j) (hhi:Ieee.double.read hi=.number false 4503599627370496 j)
  (h1:ordF a (some lo)≠some .lt) (h2:ordF a (some hi)=some .lt):∃n:Int,si_ a=some n/\ -((2^k:Nat):Int)<=n/\n<((2^k:Nat):Int):=by
 cases a with
 |none=>cases h2
 |some b=>exact ni_ hk hlo hhi h1 h2
theorem ub_ {P:Program} {s d:TypeId} {ds:TypeDesc} {j:IntKind} (hs:P.underlying s=some ds) (hd:P.underlying d=some (.int j)) {a:Option Nat} {n:Int} (h:si_ a=some n) (h1:j.min<=n) (h2:n<=j.max):(XOp.conv s d).run P [fv a]=some (.int j n):=by
 cases a with
 |none=>cases h
 |some b=>exact m4_ hs hd h h1 h2
end Go.Sx
