/-
  What operations give at values of known forms; a call of symbols, by its tree.
-/
import Derived.Test.YtjconanknjgpnaaGreatSyP
set_option linter.unusedVariables false
set_option linter.unusedSimpArgs false
namespace Go.Sx
theorem vQ_ (Y:Sy) (n:Nat) (a:AV) (i:Nat):(Y.put n a).v i=if i=n then some a else Y.v i:=rfl
section
variable (P:Program) (t:TypeId) (cx cy:Bool) (k:IntKind) (a b:Int)
theorem kix_self:Nat.beq (kix k) (kix k)=true:=Nat.beq_refl _
theorem cX_ {op:BinOp} {r:AV} (h:ma_ op k a b=some r):(XOp.bin op t cx cy).run P [.int k a,.int k b]=some r:=by show cP_ P op k a k b=some r;unfold cP_;rw [kix_self,h]
theorem run_lss:(XOp.bin .lss t cx cy).run P [.int k a,.int k b]=some (.bool (decide (a<b))):=cX_ P t cx cy k a b (by show some (AV.bool (ltI a b))=_;rw [iH_])
theorem run_gtr:(XOp.bin .gtr t cx cy).run P [.int k a,.int k b]=some (.bool (decide (b<a))):=cX_ P t cx cy k a b (by show some (AV.bool (ltI b a))=_;rw [iH_])
theorem run_leq:(XOp.bin .leq t cx cy).run P [.int k a,.int k b]=some (.bool (decide (a<=b))):=cX_ P t cx cy k a b (by show some (AV.bool (not (ltI b a)))=_;rw [iH_,gV_])
theorem run_geq:(XOp.bin .geq t cx cy).run P [.int k a,.int k b]=some (.bool (decide (b<=a))):=cX_ P t cx cy k a b (by show some (AV.bool (not (ltI a b)))=_;rw [iH_,gV_])
theorem run_eql:(XOp.bin .eql t cx cy).run P [.int k a,.int k b]=some (.bool (decide (a=b))):=cX_ P t cx cy k a b (by show some (AV.bool (eqI a b))=_;rw [fF_];rfl)
theorem run_neq:(XOp.bin .neq t cx cy).run P [.int k a,.int k b]=some (.bool (!decide (a=b))):=cX_ P t cx cy k a b (by show some (AV.bool (not (eqI a b)))=_;rw [fF_];rfl)
theorem run_add:(XOp.bin .add t cx cy).run P [.int k a,.int k b]=some (.int k (k.wrap (a+b))):=cX_ P t cx cy k a b (by show some (mkI k (d0_ k (Int.add a b)))=_;rw [dd_,cE_];rfl)
theorem run_sub:(XOp.bin .sub t cx cy).run P [.int k a,.int k b]=some (.int k (k.wrap (a-b))):=cX_ P t cx cy k a b (by show some (mkI k (d0_ k (Int.sub a b)))=_;rw [dd_,cE_];rfl)
theorem run_mul:(XOp.bin .mul t cx cy).run P [.int k a,.int k b]=some (.int k (k.wrap (a*b))):=cX_ P t cx cy k a b (by show some (mkI k (d0_ k (Int.mul a b)))=_;rw [dd_,cE_];rfl)
theorem vq_ (x:Bool):(XOp.un .not).run P [.bool x]=some (.bool (!x)):=rfl
variable {P t}
end
theorem vK_ {x:Int} (h1: -9223372036854775808<=x) (h2:x<=9223372036854775807):IntKind.i64.wrap x=x:=by simp [IntKind.wrap,IntKind.bits,IntKind.signed];omega
variable [Gl]
theorem vh_ {P:Program} (hm:P.follows .mixedOrders=true) (ho:no_ P) {f:FuncId} {ft:FT} {vs:List AV} {R:Nat->List AV->Prop} {c:VC} {n:Nat} {t:VT} (hlen:vs.length=ft.ent.nv) (hk:∀Y,Fresh Y 64->KnownF P c.fc (Y.puts 64 vs))
  (ht:u8_ P n c f ft=t) (h:∀Y,Fresh Y 64->Gl.gt Y.v->VOK P (QF R) [] (Y.puts 64 vs) t):CF P f ft vs R:=
 ⟨hlen,λY hf B pr E w us hy hg hr hcon=>by obtain ⟨p1,_,_,p4⟩:=hf.puts vs;rw [hlen]at p1;have hgt:Gl.gt Y.v:=Gl.gtm _ _ (λi hi=>by rw [hy.v];exact (p4 i hi).symm) hg.2;exact s8_ (c:=c) (fuel:=n) hm (c6_ hm ho n) ⟨p1,hk Y hf⟩ (by rw [ht];exact h Y hf hgt) B pr E w us hy hg hr hcon⟩
end Go.Sx
namespace Go.Sx
section
variable [Gl] {P:Program} {Q:AV->Prop} {L:List (Nat->List AV->Prop)} {Y:Sy}
theorem vv_ {op:XOp} {args:List AV} {n:Nat} {t:VT} {r:AV} (h1:op.run P (ab_ Y.v args)=some r) (h2:okC r=true) (h3:VOK P Q L (Y.put n r) t):VOK P Q L Y (.lt op args n none t):=⟨r,h1,h2,h3⟩
theorem vf_ {op:XOp} {args:List AV} {n k:Nat} {t:VT} {cs:List AV} (h1:op.run P (ab_ Y.v args)=some (.agg cs)) (hl:cs.length=k) (h2:okL cs=true) (h3:VOK P Q L (Y.puts n cs) t):VOK P Q L Y (.lt op args n (some k) t):=⟨cs,h1,hl,h2,h3⟩
theorem ve_ {i:Nat} {a b:VT} {t:Bool} (h:Y.v i=some (.bool t)) (h1:t=true->VOK P Q L Y a) (h2:t=false->VOK P Q L Y b):VOK P Q L Y (.ite i a b):=⟨t,h,h1,h2⟩
theorem uG_ {f:FuncId} {args:List AV} {n:Nat} {sh:List (Option Nat)} {t:VT} {v:AV} {vs:List AV} (h1:kH_ P f (ab_ Y.v args) v) (h2:hq_ sh v=some vs) (h3:okL vs=true) (h4:VOK P Q L (Y.puts n vs) t):VOK P Q L Y (.call f args n sh t):=
 ⟨v,vs,h1,h2,h3,h4⟩
theorem vd_ {k:Chk} {t:VT} (h:k.ok Y) (h1:VOK P Q L Y t):VOK P Q L Y (.chk k t):=⟨h,h1⟩
theorem uv_ {f:FuncId} {ft:FT} {hv:List AV} {n:Nat} {bs:VTs} {R:Nat->List AV->Prop} (h1:CF P f ft (ab_ Y.v hv) R) (h2:okL (ab_ Y.v hv)=true) (h3:si_ P Q R L (Y.puts n (ab_ Y.v hv)) (Nat.add n ft.ent.nv) 0 bs):VOK P Q L Y (.callF f ft hv n bs):=⟨R,h1,h2,h3⟩
theorem VOK_fin {R:Nat->List AV->Prop} {j:Nat} {hv:List AV} (h1:okL (ab_ Y.v hv)=true) (h:R j (ab_ Y.v hv)):VOK P (QF R) L Y (.done (.tup (.int .i64 (.ofNat j)::hv))):=⟨j,_,rfl,h1,h⟩
theorem uH_ {v:AV} (h:Q (den Y.v v)):VOK P Q L Y (.done v):=h
theorem uu_ {lvl j:Nat} {hv:List AV} {R:Nat->List AV->Prop} (h1:L[lvl]? =some R) (h2:R j (ab_ Y.v hv)):VOK P Q L Y (.again lvl j hv):=⟨R,h1,h2⟩
open Classical in
theorem uI_ {ι:Type} (st:ι->List AV) (p:ι->Prop) (μ:ι->Nat) (i0:ι) (h0:p i0) {n nv:Nat} {hv:List AV} {t:VT} (he:ab_ Y.v hv=st i0) (hok:∀i,p i->okL (st i)=true)
  (hμ:∀i j,p i->p j->st i=st j->μ i=μ j) (hb:∀i,p i->VOK P Q (L++[λ_ vs=>∃i',p i'/\vs=st i'/\μ i'<μ i]) (Y.puts n (st i)) t):VOK P Q L Y (.loop n 0 hv (.cons nv t .nil)):=by
 let m:List AV->Nat:=λvs=>if h:∃i,p i/\vs=st i then μ (Classical.choose h)else 0
 have hm:∀i,p i->m (st i)=μ i:=λi hi=>by have h:∃j,p j/\st i=st j:=⟨i,hi,rfl⟩;simp only [m,dif_pos h];obtain ⟨h1,h2⟩:=Classical.choose_spec h;exact hμ _ _ h1 hi h2.symm
 refine ⟨λ_ vs=>∃i,p i/\vs=st i,λ_ vs=>m vs,λj vs ⟨i,h1,h2⟩=>by rw [h2];exact hok i h1,⟨i0,h0,he⟩,λvs hvs hI=>?_,trivial⟩;obtain ⟨i,h1,h2⟩:=hI;subst h2;have e:(λ(_:Nat) (vs':List AV)=>(∃i',p i'/\vs'=st i')/\m vs'<m (st i))=λ_ vs'=>∃i',p i'/\vs'=st i'/\μ i'<μ i:=by
  funext _ vs'
  refine propext ⟨λh=>?_,λh=>?_⟩;obtain ⟨⟨i',g1,g2⟩,g3⟩:=h;subst g2;rw [hm i' g1,hm i h1]at g3;exact ⟨i',g1,rfl,g3⟩;obtain ⟨i',g1,g2,g3⟩:=h;subst g2;exact ⟨⟨i',g1,rfl⟩,by rw [hm i' g1,hm i h1];exact g3⟩
 simp only [e];exact hb i h1
end
theorem g4_:∀(n:Nat) (sh:List (Option Nat)),ad_ (bQ_ n sh)=true
 |_,[]=>rfl
 |n,none::s=>by simp only [bQ_,ad_,ae_];exact g4_ _ s
 |n,some m::s=>by simp only [bQ_,ad_,ae_,hB_];exact g4_ _ s
theorem gI_:∀{sh:List (Option Nat)} {l vs:List AV},flat sh l=some vs->okL vs=true->mI_ l=true
 |[],[],vs,h,_=>rfl
 |none::s,a::r,vs,h,hok=>by unfold flat at h;split at h;rename_i l' hl;cases h;rw [a1_]at hok;obtain ⟨k1,k2⟩:=aa_ hok;simp only [mI_,sK_ k1,gI_ hl k2];cases h
 |some m::s,a::r,vs,h,hok=>by have ha:∃cs,a=.agg cs:=(by cases a<;>first|exact ⟨_,rfl⟩|(cases h));obtain ⟨cs,rfl⟩:=ha;simp only [flat]at h;split at h;split at h;rename_i l' hl;cases h;obtain ⟨k1,k2⟩:=fK_ hok;simp only [mI_,okI,k1,gI_ hl k2];cases h;cases h
 |[],_::_,vs,h,_=>by cases h
 |none::_,[],vs,h,_=>by cases h
 |some _::_,[],vs,h,_=>by cases h
theorem fD_ {s:Nat->Option AV}:∀(sh:List (Option Nat)) (n:Nat) (l vs:List AV),flat sh l=some vs->(∀i a,vs[i]? =some a->s (n+i)=some a)->ab_ s (bQ_ n sh)=l
 |[],n,[],vs,h,_=>rfl
 |none::sh,n,a::r,vs,h,hs=>by unfold flat at h;split at h;rename_i l' hl;cases h;have h0:s n=some a:=(by simpa using hs 0 a rfl);simp only [bQ_,ab_,den,h0];rw [fD_ sh (n+1) r l' hl λi b hb=>by have:=hs (i+1) b (by simpa using hb);rw [show n+1+i=n+(i+1) by omega];exact this];cases h
 |some m::sh,n,a::r,vs,h,hs=>by have ha:∃cs,a=.agg cs:=(by cases a<;>first|exact ⟨_,rfl⟩|(cases h));obtain ⟨cs,rfl⟩:=ha;simp only [flat]at h;split at h;rename_i hd;have hd:cs.length=m:=of_decide_eq_true hd;subst hd;split at h;rename_i l' hl;cases h;simp only [bQ_,ab_,den];show AV.agg (ab_ s (ah_ n cs.length))::ab_ s (bQ_ (n+cs.length) sh)=_;rw [fD_ sh (n+cs.length) r l' hl λi b hb=>by have:=hs (cs.length+i) b (by rw [List.getElem?_append_right (by omega)];simpa using hb);rw [show n+cs.length+i=n+(cs.length+i) by omega];exact this];rw [den_symsL n cs λi b hb=>hs i b (by rw [List.getElem?_append_left (by exact (List.getElem?_eq_some_iff.1 hb).1)];exact hb)];cases h;cases h
 |[],_,_::_,vs,h,_=>by cases h
 |none::_,_,[],vs,h,_=>by cases h
 |some _::_,_,[],vs,h,_=>by cases h
where
 den_symsL {s:Nat->Option AV}:∀(n:Nat) (cs:List AV),(∀i a,cs[i]? =some a->s (n+i)=some a)->ab_ s (ah_ n cs.length)=cs
 |n,[],_=>rfl
 |n,a::r,h=>by have h0:s n=some a:=(by simpa using h 0 a rfl);simp only [List.length_cons,ah_,ab_,den,h0];rw [den_symsL (n+1) r λi b hb=>by have:=h (i+1) b (by simpa using hb);rw [show n+1+i=n+(i+1) by omega];exact this]
theorem t6_ [Gl] {P:Program} (hm:P.follows .mixedOrders=true) (ho:no_ P) {f:FuncId} {args ls:List AV} {sh:List (Option Nat)} {v:AV} {c:VC} {n m:Nat} {t:VT} (hfl:flat sh args=some ls) (hls:okL ls=true) (hv:aX_ v=true)
  (hk:∀Y,Fresh Y 64->KnownF P c.fc (Y.puts 64 ls)) (hm':64+dx_ sh=m) (ht:vFn P n c f (bQ_ 64 sh) m=t) (h:∀Y,Fresh Y 64->Gl.gt Y.v->VOK P (· =v) [] (Y.puts 64 ls) t):kH_ P f args v:=
 pure_sym (args':=bQ_ 64 sh) (gI_ hfl hls) hv (g4_ _ _) hls (λY hf=>fD_ sh 64 args ls hfl λi a ha=>bE_ ls hf i a ha) λY hf hg=>
  (r5_ (c:=c) (n:=m) hm (c6_ hm ho n) ⟨by have:=(hf.puts ls).1;rw [f8_ hfl,hm']at this;exact this,hk Y hf⟩ (by rw [ht];exact h Y hf hg)).low
theorem uY_ [Gl] {P:Program} (hm:P.follows .mixedOrders=true) (ho:no_ P) {f:FuncId} {args args' ls:List AV} {v:AV} {c:VC} {n m:Nat} {t:VT} (hok:mI_ args=true) (hso:ad_ args'=true) (hls:okL ls=true) (hv:aX_ v=true)
  (hden:∀Y,Fresh Y 64->ab_ (Y.puts 64 ls).v args'=args) (hk:∀Y,Fresh Y 64->KnownF P c.fc (Y.puts 64 ls)) (hm':64+ls.length=m) (ht:vFn P n c f args' m=t) (h:∀Y,Fresh Y 64->Gl.gt Y.v->VOK P (· =v) [] (Y.puts 64 ls) t):kH_ P f args v:=
 pure_sym (args':=args') hok hv hso hls hden λY hf hg=>
  (r5_ (c:=c) (n:=m) hm (c6_ hm ho n) ⟨by have:=(hf.puts ls).1;rw [hm']at this;exact this,hk Y hf⟩ (by rw [ht];exact h Y hf hg)).low
theorem vC_ [Gl] {P:Program} (Y:Sy):KnownF P ⟨[],[]⟩ Y:=⟨λf h=>(List.not_mem_nil h).elim,λf h=>(List.not_mem_nil h).elim⟩
def aR_ {α:Type} (enc:α->List AV):List α->List AV
 |[]=>[]
 |a::r=>enc a++aR_ enc r
def a5_ {α:Type} (enc:α->List AV) (w:Nat) (l:List α):AV:=match l with
 |[]=>.nsl
 |a::r=>.vsl (r.length+1) w (aR_ enc (a::r))
section
variable {α:Type} {enc:α->List AV} {w:Nat}
theorem cz_:∀a b:List α,aR_ enc (a++b)=aR_ enc a++aR_ enc b
 |[],b=>rfl
 |x::r,b=>by simp only [List.cons_append,aR_,cz_ r b,List.append_assoc]
theorem aG_ (hw:∀a,(enc a).length=w):∀l:List α,(aR_ enc l).length=l.length*w
 |[]=>by simp [aR_]
 |a::r=>by simp only [aR_,List.length_append,hw,aG_ hw r,List.length_cons,Nat.add_mul];omega
theorem gA_ (hw:∀a,(enc a).length=w):∀(l:List α) (i:Nat),(aR_ enc l).drop (i*w)=aR_ enc (l.drop i)
 |l,0=>by simp
 |[],i+1=>by simp [aR_]
 |a::r,i+1=>by simp only [aR_,List.drop_succ_cons];rw [←gA_ hw r i,Nat.add_mul,Nat.one_mul,Nat.add_comm,←List.drop_drop,List.drop_left' (hw a)]
theorem kS_ (h:∀a,okL (enc a)=true):∀l:List α,okL (aR_ enc l)=true
 |[]=>rfl
 |a::r=>okL_join (h a) (kS_ h r)
where
 okL_join:∀{a b:List AV},okL a=true->okL b=true->okL (a++b)=true
 |[],b,_,h=>h
 |x::r,b,h1,h2=>by rw [a1_]at h1;obtain ⟨k1,k2⟩:=aa_ h1;rw [List.cons_append,a1_,k1,okL_join k2 h2];rfl
theorem uf_ (h:∀a,okL (enc a)=true) (l:List α):okC (a5_ enc w l)=true:=by
 cases l with
 |nil=>rfl
 |cons a r=>exact kS_ h (a::r)
mutual
theorem p6_:∀{a:AV},okC a=true->aX_ a=true
 | .opq,h=>by simp [okC]at h
 | .bool _,_=>rfl
 | .int _ _,_=>rfl
 | .flt _ _,_=>rfl
 | .nan _,_=>rfl
 | .str _,_=>rfl
 | .nptr,_=>rfl
 | .ptr _ _,h=>by simp [okC]at h
 | .vptr cs,h=>by simp only [okC]at h;simp only [aX_];exact b5_ h
 | .nsl,_=>rfl
 | .sl ..,h=>by simp [okC]at h
 | .vsl _ _ cs,h=>by simp only [okC]at h;simp only [aX_];exact b5_ h
 | .nmap,_=>rfl
 | .map _,h=>by simp [okC]at h
 | .nfn,_=>rfl
 | .fn _ cs,h=>by simp only [okC]at h;simp only [aX_];exact b5_ h
 | .nif,_=>rfl
 | .iface _ a,h=>by simp only [okC]at h;simp only [aX_];exact ko_ h
 | .agg _,h=>by simp [okC]at h
 | .tup _,h=>by simp [okC]at h
 | .sym _,h=>by simp [okC]at h
 | .slx ..,h=>by simp [okC]at h
 | .ptx ..,h=>by simp [okC]at h
theorem ko_:∀{a:AV},okI a=true->aX_ a=true
 | .opq,h=>by simp [okI]at h
 | .bool _,_=>rfl
 | .int _ _,_=>rfl
 | .flt _ _,_=>rfl
 | .nan _,_=>rfl
 | .str _,_=>rfl
 | .nptr,_=>rfl
 | .ptr _ _,h=>by simp [okI]at h
 | .vptr cs,h=>by simp only [okI]at h;simp only [aX_];exact b5_ h
 | .nsl,_=>rfl
 | .sl ..,h=>by simp [okI]at h
 | .vsl _ _ cs,h=>by simp only [okI]at h;simp only [aX_];exact b5_ h
 | .nmap,_=>rfl
 | .map _,h=>by simp [okI]at h
 | .nfn,_=>rfl
 | .fn _ cs,h=>by simp only [okI]at h;simp only [aX_];exact b5_ h
 | .nif,_=>rfl
 | .iface _ a,h=>by simp only [okI]at h;simp only [aX_];exact ko_ h
 | .agg cs,h=>by simp only [okI]at h;simp only [aX_];exact b5_ h
 | .tup _,h=>by simp [okI]at h
 | .sym _,h=>by simp [okI]at h
 | .slx ..,h=>by simp [okI]at h
 | .ptx ..,h=>by simp [okI]at h
theorem b5_:∀{l:List AV},okL l=true->cI_ l=true
 |[],_=>rfl
 |a::r,h=>by rw [a1_]at h;obtain ⟨h1,h2⟩:=aa_ h;simp only [cI_,p6_ h1,b5_ h2]
end
variable {P:Program} {t e:TypeId} {ti:TypeInfo}
theorem uc_ (ht:P.underlying t=some (.slice e)) (l:List α):(XOp.len t).run P [a5_ enc w l]=some (.int .i64 (l.length:Int)):=by
 cases l with
 |nil=>show cb_ P h0 t .nsl=_;unfold cb_;rw [ht];rfl
 |cons a r=>show cb_ P h0 t (.vsl (r.length+1) w (aR_ enc (a::r)))=_;unfold cb_;rw [ht];rfl
theorem run_iaddr_sl (ht:P.underlying t=some (.slice e)) (hi:P.info? e=some ti) (hs:ti.size=w) (hw:∀a,(enc a).length=w) {l:List α} {i:Nat} (h:i<l.length) (k:IntKind):
  (XOp.iaddr t).run P [a5_ enc w l,.int k (i:Int)]=some (.vptr (aR_ enc (l.drop i))):=by
 cases l with
 |nil=>simp at h
 |cons a r=>show aS_ P t (.vsl (r.length+1) w _) (.int k (.ofNat i))=_;unfold aS_;have hb:Nat.blt i (r.length+1)=true:=(by simpa [Nat.blt_eq]using h);simp only [ht,hi,idx,hb,hs,aB_];have:=gA_ hw (a::r) i;show some (AV.vptr ((aR_ enc (a::r)).drop (i*w)))=_;rw [this]
theorem cC_:∀(a b:List AV),a2_ a.length (a++b)=some a
 |[],b=>rfl
 |x::r,b=>by simp only [List.length_cons,List.cons_append,a2_,cC_ r b]
theorem run_load_agg {d:TypeDesc} (ht:P.underlying t=some d) (ha:lI_ d=true) (hi:P.info? t=some ti) (hs:ti.size=w) (hw:∀a,(enc a).length=w) {l:List α} {i:Nat} (h:i<l.length):
  (XOp.load t).run P [.vptr (aR_ enc (l.drop i))]=some (.agg (enc l[i])):=by
 show bl_ P h0 t (.vptr _)=_;unfold bl_ aU_;rw [List.drop_eq_getElem_cons h];simp only [ht,ha,hi,hs,aR_];rw [←hw l[i],cC_]
theorem sW_ {d:TypeDesc} (ht:P.underlying t=some d) (ha:lI_ d=false) (x:AV) (r:List AV):(XOp.load t).run P [.vptr (x::r)]=some x:=by show bl_ P h0 t (.vptr _)=_;unfold bl_ aU_;simp only [ht,ha,a2_]
theorem t9_ {sz bytes:Nat} (hw:∀a,(enc a).length=sz) (hsz:0<sz) (hb:0<bytes) (l:List α) (a:α) (hl:(l.length+1)*bytes<=1073741824):(XOp.app sz bytes).run P [a5_ enc sz l,.agg (enc a)]=some (a5_ enc sz (l++[a])):=by
 have h1:Nat.div (a0_ (enc a)) sz=1:=by rw [aj_,hw];exact Nat.div_self hsz
 have hl1:l.length+1<=1073741824:=Nat.le_trans (Nat.le_mul_of_pos_right _ hb) hl;show (match a8_ sz (.agg (enc a))with|some (n,l')=>fq_ sz bytes (a5_ enc sz l) n l'|none=>none)=_;simp only [a8_,h1];unfold fq_;have hd:decide ((enc a).length=1*sz)=true:=by rw [hw,Nat.one_mul];exact decide_eq_true rfl
 simp only [hd];cases l with
 |nil=>have c1:(Nat.ble (Nat.mul 1 bytes) 1073741824&&Nat.ble 1 1073741824&&Nat.blt 0 bytes)=true:=(by simp only [List.length_nil,Nat.zero_add,Nat.one_mul]at hl;simp [Nat.ble_eq,Nat.blt_eq,hb,hl]);simp only [a5_,c1,List.nil_append,List.length_nil,aR_,List.append_nil]
 |cons b r=>have hd2:decide (sz=sz/\(aR_ enc (b::r)).length=(r.length+1)*sz)=true:=decide_eq_true ⟨rfl,aG_ hw (b::r)⟩;have c1:(Nat.ble (Nat.mul (Nat.add (r.length+1) 1) bytes) 1073741824&&Nat.ble (Nat.add (r.length+1) 1) 1073741824&&Nat.blt 0 bytes)=true:=(by have e1:Nat.mul (Nat.add (r.length+1) 1) bytes=(r.length+1+1)*bytes:=rfl;have e2:Nat.add (r.length+1) 1=r.length+1+1:=rfl;rw [e1,e2];simp only [List.length_cons]at hl hl1;simp [Nat.ble_eq,Nat.blt_eq,hb,hl,hl1]);have hlen:(aR_ enc (b::r)).length=(r.length+1)*sz:=aG_ hw (b::r);have e3:aR_ enc (b::(r++[a]))=aR_ enc (b::r)++enc a:=(by rw [←List.cons_append,cz_];simp only [aR_,List.append_nil]);have e4:(r++[a]).length+1=Nat.add (r.length+1) 1:=(by simp);simp only [a5_,hlen,true_and,decide_true,c1,List.cons_append,e3,e4]
theorem tC_ {sz bytes:Nat} (hw:∀a,(enc a).length=sz) (hsz:0<sz) (hb:0<bytes) (l l':List α) (hl:(l.length+l'.length)*bytes<=1073741824):(XOp.app sz bytes).run P [a5_ enc sz l,a5_ enc sz l']=some (a5_ enc sz (l++l')):=by
 have hl1:l.length+l'.length<=1073741824:=Nat.le_trans (Nat.le_mul_of_pos_right _ hb) hl;show (match a8_ sz (a5_ enc sz l')with|some (n,l')=>fq_ sz bytes (a5_ enc sz l) n l'|none=>none)=_;have ha:a8_ sz (a5_ enc sz l')=some (l'.length,aR_ enc l'):=by
  cases l' with
  |nil=>rfl
  |cons a r=>
   show (match ag_ ⟨hnil,0,0⟩ (.vsl (r.length+1) sz (aR_ enc (a::r))) (r.length+1) sz with|some l=>some (r.length+1,l)|none=>none)=_;have:ag_ ⟨hnil,0,0⟩ (.vsl (r.length+1) sz (aR_ enc (a::r))) (r.length+1) sz=some (aR_ enc (a::r)):=by show a2_ (Nat.mul (r.length+1) sz) _=_;have h:=cC_ (aR_ enc (a::r)) [];rw [List.append_nil,aG_ hw]at h;exact h
   simp only [this,List.length_cons]
 simp only [ha];unfold fq_;have hd:decide ((aR_ enc l').length=l'.length*sz)=true:=decide_eq_true (aG_ hw l');simp only [hd];cases l with
 |nil=>
  cases l' with
  |nil=>rfl
  |cons a r=>have c1:(Nat.ble (Nat.mul (a::r).length bytes) 1073741824&&Nat.ble (a::r).length 1073741824&&Nat.blt 0 bytes)=true:=(by simp only [List.length_nil,Nat.zero_add]at hl hl1;have e1:Nat.mul (a::r).length bytes=(a::r).length*bytes:=rfl;rw [e1];simp only [Bool.and_eq_true,Nat.ble_eq,Nat.blt_eq];exact ⟨⟨hl,hl1⟩,hb⟩);simp only [List.length_cons]at c1;simp only [a5_,List.length_cons,c1,List.nil_append]
 |cons b q=>
  have hd2:decide (sz=sz/\(aR_ enc (b::q)).length=(q.length+1)*sz)=true:=decide_eq_true ⟨rfl,aG_ hw (b::q)⟩;cases l' with
  |nil=>have hlen:(aR_ enc (b::q)).length=(q.length+1)*sz:=aG_ hw (b::q);simp only [a5_,List.length_nil,hlen,true_and,decide_true,List.append_nil]
  |cons a r=>have c1:(Nat.ble (Nat.mul (Nat.add (q.length+1) (r.length+1)) bytes) 1073741824&&Nat.ble (Nat.add (q.length+1) (r.length+1)) 1073741824&&Nat.blt 0 bytes)=true:=(by simp only [List.length_cons]at hl hl1;have e1:Nat.mul (Nat.add (q.length+1) (r.length+1)) bytes=(q.length+1+(r.length+1))*bytes:=rfl;have e2:Nat.add (q.length+1) (r.length+1)=q.length+1+(r.length+1):=rfl;rw [e1,e2];simp only [Bool.and_eq_true,Nat.ble_eq,Nat.blt_eq];exact ⟨⟨hl,hl1⟩,hb⟩);have hlen:(aR_ enc (b::q)).length=(q.length+1)*sz:=aG_ hw (b::q);have e3:aR_ enc (b::(q++a::r))=aR_ enc (b::q)++aR_ enc (a::r):=(by rw [←List.cons_append,cz_]);have e4:(q++a::r).length+1=Nat.add (q.length+1) (r.length+1):=(by show _=q.length+1+(r.length+1);simp;omega);simp only [a5_,List.length_cons,hlen,true_and,decide_true,c1,List.cons_append,e3,e4]
end
def dZ_ {α:Type} (enc:α->List AV) (w:Nat) (l:List α):AV:=.vsl l.length w (aR_ enc l)
def SlV {α:Type} (enc:α->List AV) (w:Nat) (l:List α) (a:AV):Prop:=a=dZ_ enc w l\/(l=[]/\a=.nsl)
section
variable {α:Type} {enc:α->List AV} {w:Nat}
theorem SlV.of (l:List α):SlV enc w l (a5_ enc w l):=by
 cases l with
 |nil=>exact .inr ⟨rfl,rfl⟩
 |cons a r=>exact .inl rfl
theorem SlV.v (l:List α):SlV enc w l (dZ_ enc w l):=.inl rfl
theorem SlV.eq {l:List α} {a:AV} (h:SlV enc w l a) (hl:l≠[]):a=a5_ enc w l:=by
 rcases h with h|⟨h,_⟩
 .rw [h];cases l with
  |nil=>exact absurd rfl hl
  |cons a r=>rfl
 exact absurd h hl
theorem sc_ (h:∀a,okL (enc a)=true) (l:List α):okC (dZ_ enc w l)=true:=by show okL (aR_ enc l)=true;exact kS_ h l
theorem SlV.ok {l:List α} {a:AV} (h:SlV enc w l a) (he:∀a,okL (enc a)=true):okC a=true:=by rcases h with h|⟨_,h⟩;rw [h];exact sc_ he l;rw [h];rfl
variable {P:Program} {t e:TypeId} {ti:TypeInfo}
theorem SlV.len {l:List α} {a:AV} (h:SlV enc w l a) (ht:P.underlying t=some (.slice e)):(XOp.len t).run P [a]=some (.int .i64 (l.length:Int)):=by rcases h with h|⟨h1,h⟩;subst h;show cb_ P h0 t (.vsl l.length w (aR_ enc l))=_;unfold cb_;rw [ht];rfl;subst h h1;show cb_ P h0 t .nsl=_;unfold cb_;rw [ht];rfl
theorem SlV.ia {l:List α} {a:AV} (h:SlV enc w l a) (ht:P.underlying t=some (.slice e)) (hi:P.info? e=some ti) (hs:ti.size=w) (hw:∀a,(enc a).length=w) {i:Nat} (hl:i<l.length) (k:IntKind):
  (XOp.iaddr t).run P [a,.int k (i:Int)]=some (.vptr (aR_ enc (l.drop i))):=by
 rw [h.eq (λe=>by rw [e]at hl;simp at hl)];exact run_iaddr_sl ht hi hs hw hl k
theorem ph_ (ht:P.underlying t=some (.slice e)) (hi:P.info? e=some ti) (hs:ti.size=w) (hw:∀a,(enc a).length=w) {l:List α} {a:AV} (h:SlV enc w l a) {lo hi':Option AV} {i j:Nat} (hlo:bnd lo 0=some i) (hhi:bnd hi' l.length=some j) (hij:i<=j) (hj:j<=l.length):
  ∃r,dB_ a (aJ_ P h0 t a lo hi')=some r/\SlV enc w ((l.take j).drop i) r:=by
 rcases h with h|⟨h1,h⟩
 .subst h;refine ⟨dZ_ enc w ((l.take j).drop i),?_,.inl rfl⟩;show aJ_ P h0 t (.vsl l.length w (aR_ enc l)) lo hi'=_;unfold aJ_;have hb:(Nat.ble i j&&(Nat.ble j l.length&&Nat.beq w ti.size))=true:=by rw [hs];simp [Nat.ble_eq,hij,hj]
  simp only [hlo,ht,hi,hhi,hb,aB_];have hlen:((l.take j).drop i).length=j-i:=(by rw [List.length_drop,List.length_take];omega);have e1:(aR_ enc l).drop (Nat.mul i w)=aR_ enc ((l.take j).drop i)++aR_ enc (l.drop j):=by show (aR_ enc l).drop (i*w)=_;rw [gA_ hw,←cz_,←List.drop_append_of_le_length (by rw [List.length_take];omega),List.take_append_drop]
  have e2:a2_ (Nat.mul (Nat.sub j i) w) (aR_ enc ((l.take j).drop i)++aR_ enc (l.drop j))=some (aR_ enc ((l.take j).drop i)):=(by have:=cC_ (aR_ enc ((l.take j).drop i)) (aR_ enc (l.drop j));rw [aG_ hw,hlen]at this;exact this);rw [e1,e2];show some (AV.vsl (Nat.sub j i) w _)=some (AV.vsl ((l.take j).drop i).length w _);rw [hlen];rfl
 subst h h1;have hj0:j=0:=(by simpa using hj);have hi0:i=0:=(by omega);subst hj0 hi0;refine ⟨.nsl,?_,.inr ⟨rfl,rfl⟩⟩;show aJ_ P h0 t .nsl lo hi'=_;unfold aJ_;simp only [List.length_nil]at hhi;simp only [hlo,ht,hi,hhi]
theorem SlV.slc10 (ht:P.underlying t=some (.slice e)) (hi:P.info? e=some ti) (hs:ti.size=w) (hw:∀a,(enc a).length=w) {l:List α} {a:AV} (h:SlV enc w l a) {k:IntKind} {i:Nat} (hil:i<=l.length):
  ∃r,(XOp.slc t true false).run P [a,.int k (i:Int)]=some r/\SlV enc w (l.drop i) r:=by
 have:=ph_ ht hi hs hw h (lo:=some (.int k i)) (hi':=none) rfl rfl hil (Nat.le_refl _);rw [List.take_length]at this;exact this
theorem SlV.slc01 (ht:P.underlying t=some (.slice e)) (hi:P.info? e=some ti) (hs:ti.size=w) (hw:∀a,(enc a).length=w) {l:List α} {a:AV} (h:SlV enc w l a) {k:IntKind} {j:Nat} (hj:j<=l.length):
  ∃r,(XOp.slc t false true).run P [a,.int k (j:Int)]=some r/\SlV enc w (l.take j) r:=by
 have:=ph_ ht hi hs hw h (lo:=none) (hi':=some (.int k j)) rfl rfl (Nat.zero_le _) hj;rw [List.drop_zero]at this;exact this
theorem SlV.arg {l:List α} {a:AV} (h:SlV enc w l a) (hw:∀a,(enc a).length=w):a8_ w a=some (l.length,aR_ enc l):=by
 rcases h with h|⟨h1,h⟩
 .subst h;have:ag_ ⟨hnil,0,0⟩ (dZ_ enc w l) l.length w=some (aR_ enc l):=by unfold ag_;show a2_ (Nat.mul l.length w) (aR_ enc l)=_;have h:=cC_ (aR_ enc l) [];rw [List.append_nil,aG_ hw]at h;exact h
  show (match ag_ ⟨hnil,0,0⟩ (dZ_ enc w l) l.length w with|some q=>some (l.length,q)|none=>none)=_;rw [this]
 subst h h1;rfl
theorem SlV.app {sz bytes:Nat} {enc:α->List AV} (hw:∀a,(enc a).length=sz) (hsz:0<sz) (hb:0<bytes) {l l':List α} {a a':AV} (h:SlV enc sz l a) (h':SlV enc sz l' a') (hl:(l.length+l'.length)*bytes<=1073741824):
  ∃r,(XOp.app sz bytes).run P [a,a']=some r/\SlV enc sz (l++l') r:=by
 have harg:=h'.arg hw;have hl1:l.length+l'.length<=1073741824:=Nat.le_trans (Nat.le_mul_of_pos_right _ hb) hl;have e0:(XOp.app sz bytes).run P [a,a']=fq_ sz bytes a l'.length (aR_ enc l'):=by show (match a8_ sz a' with|some (n,l')=>fq_ sz bytes a n l'|none=>none)=_;rw [harg]
 rw [e0];unfold fq_;have hd:decide ((aR_ enc l').length=l'.length*sz)=true:=decide_eq_true (aG_ hw l');simp only [hd];cases l' with
 |nil=>rw [List.append_nil];rcases h with h|⟨h1,h⟩;subst h;exact ⟨dZ_ enc sz l,by simp only [dZ_,aG_ hw,and_self,decide_true,List.length_nil],.inl rfl⟩;subst h;exact ⟨.nsl,rfl,.inr ⟨h1,rfl⟩⟩
 |cons x r=>have c0:∀m:Nat,m=l.length+(x::r).length->(Nat.ble (Nat.mul m bytes) 1073741824&&Nat.ble m 1073741824&&Nat.blt 0 bytes)=true:=λm hm=>(by subst hm;have e1:Nat.mul (l.length+(x::r).length) bytes=(l.length+(x::r).length)*bytes:=rfl;rw [e1];simp only [Bool.and_eq_true,Nat.ble_eq,Nat.blt_eq];exact ⟨⟨hl,hl1⟩,hb⟩);rcases h with h|⟨h1,h⟩;subst h;refine ⟨dZ_ enc sz (l++x::r),?_,.inl rfl⟩;have c1:=c0 (Nat.add l.length (r.length+1)) rfl;have e2:Nat.add l.length (r.length+1)=l.length+(r.length+1):=rfl;rw [e2]at c1;simp only [dZ_,aG_ hw,and_self,decide_true,List.length_cons,c1,List.length_append,cz_,e2];subst h h1;refine ⟨dZ_ enc sz (x::r),?_,.inl rfl⟩;have c1:=c0 (r.length+1) (by simp);simp only [List.length_cons,c1,dZ_]
theorem SlV.app1 {sz bytes:Nat} {enc:α->List AV} (hw:∀a,(enc a).length=sz) (hsz:0<sz) (hb:0<bytes) {l:List α} {a:AV} (h:SlV enc sz l a) (x:α) (hl:(l.length+1)*bytes<=1073741824):
  ∃r,(XOp.app sz bytes).run P [a,.agg (enc x)]=some r/\SlV enc sz (l++[x]) r:=by
 obtain ⟨r,h1,h2⟩:=h.app (P:=P) (l':=[x]) hw hsz hb (SlV.v [x]) hl;refine ⟨r,?_,h2⟩;rw [←h1];show (match a8_ sz (.agg (enc x))with|some (n,l')=>fq_ sz bytes a n l'|none=>none)=(match a8_ sz (dZ_ enc sz [x])with|some (n,l')=>fq_ sz bytes a n l'|none=>none);rw [(SlV.v [x]).arg hw];have e1:Nat.div (a0_ (enc x)) sz=1:=by rw [aj_,hw];exact Nat.div_self hsz
 simp only [a8_,e1,aR_,List.append_nil,List.length_cons,List.length_nil]
end
end Go.Sx
namespace Go.Sx
def de_ (n:Nat):Bool:=decide (9218868437227405312<n%9223372036854775808)
theorem cr_ (n:Nat):(de_ n=true/\∃s q,Ieee.double.read n=.nan s q)\/(de_ n=false/\n%9223372036854775808=0/\∃s,Ieee.double.read n=.number s 0 Ieee.double.leastPlace)\/
  (de_ n=false/\n%9223372036854775808≠0/\((∃s m i,0<m/\Ieee.double.leastPlace<=i/\Ieee.double.read n=.number s m i)\/∃s,Ieee.double.read n=.infinity s)):=by
 have e1:Ieee.double.signWeight=9223372036854775808:=rfl;have e2:Ieee.double.infRung=9218868437227405312:=rfl;have e3:Ieee.double.binade=4503599627370496:=rfl;unfold Ieee.Format.read de_;simp only [e1,e2,e3];generalize n%9223372036854775808=r;by_cases h1:r<4503599627370496;rw [if_pos h1];by_cases h0:r=0;subst h0;exact .inr (.inl ⟨rfl,rfl,_,rfl⟩);exact .inr (.inr ⟨by simp;omega,h0,.inl ⟨_,_,_,by omega,Int.le_refl _,rfl⟩⟩);rw [if_neg h1];by_cases h2:r<9218868437227405312;rw [if_pos h2];exact .inr (.inr ⟨by simp;omega,by omega,.inl ⟨_,_,_,by omega,by omega,rfl⟩⟩);rw [if_neg h2];by_cases h3:r=9218868437227405312;rw [if_pos h3];exact .inr (.inr ⟨by simp;omega,by omega,.inr ⟨_,rfl⟩⟩);rw [if_neg h3];exact .inl ⟨by simp;omega,_,_,rfl⟩
theorem jG_ (s:Bool) (up:Nat):Ieee.signed s 0 up=0:=by
 unfold Ieee.signed;have:(0:Nat)<<<up=0:=by rw [Nat.shiftLeft_eq,Nat.zero_mul]
 rw [this];split<;>rfl
theorem n2_ (n:Nat):(Ieee.double.order n n==some .eq)= !de_ n:=by
 unfold Ieee.Format.order;rcases cr_ n with ⟨h,s,q,e⟩|⟨h,_,s,e⟩|⟨h,_,⟨s,m,i,hm,hi,e⟩|⟨s,e⟩⟩;rw [e,h];simp [Ieee.Datum.order];rw [e,h];simp only [Ieee.Datum.order,jG_];rfl;rw [e,h];simp only [Ieee.Datum.order];rw [Int.compare_eq_eq.2 rfl];rfl
 .rw [e,h];simp only [Ieee.Datum.order];cases s<;>rfl
section
variable {P:Program} {t:TypeId}
theorem st_ (a b:List UInt8):eqB a b=decide (a=b):=by
 by_cases h:a=b
 .subst h;rw [decide_eq_true rfl];exact by rw [d4_];exact beq_self_eq_true a
 .rw [decide_eq_false h];cases hb:eqB a b with
  |false=>rfl
  |true=>exact absurd (by rw [d4_]at hb;exact eq_of_beq hb) h
theorem vp_ (cx cy:Bool) (a b:List UInt8):(XOp.bin .neq t cx cy).run P [.str a,.str b]=some (.bool (!decide (a=b))):=by show some (AV.bool (not (eqB a b)))=_;rw [st_]
theorem tD_ {s d:TypeId} {ds:TypeDesc} {k j:IntKind} (hs:P.underlying s=some ds) (hd:P.underlying d=some (.int k)) (n:Int):(XOp.conv s d).run P [.int j n]=some (.int k (k.wrap n)):=by show b2_ P h0 s d (.int j n)=_;unfold b2_ e8_;simp only [hs,hd,dd_,cE_]
end
end Go.Sx
