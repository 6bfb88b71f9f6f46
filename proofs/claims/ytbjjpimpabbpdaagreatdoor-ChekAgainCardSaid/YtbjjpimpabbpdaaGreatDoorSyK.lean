/-
  What operations give at values of known forms; a call of symbols, by its tree.
-/
import Derived.Test.YtbjjpimpabbpdaaGreatDoorSyP
set_option linter.unusedVariables false
set_option linter.unusedSimpArgs false
namespace Go.Sx
theorem vc_ (Y:Sy) (n:Nat) (a:AV) (i:Nat):(Y.put n a).v i=if i=n then some a else Y.v i:=rfl
section
variable (P:Program) (t:TypeId) (cx cy:Bool) (k:IntKind) (a b:Int)
theorem kix_self:Nat.beq (kix k) (kix k)=true:=Nat.beq_refl _
theorem dn_ {op:BinOp} {r:AV} (h:l7_ op k a b=some r):(XOp.bin op t cx cy).run P [.int k a,.int k b]=some r:=by show dW_ P op k a k b=some r;unfold dW_;rw [kix_self,h]
theorem run_lss:(XOp.bin .lss t cx cy).run P [.int k a,.int k b]=some (.bool (decide (a<b))):=dn_ P t cx cy k a b (by show some (AV.bool (ltI a b))=_;rw [iJ_])
theorem run_gtr:(XOp.bin .gtr t cx cy).run P [.int k a,.int k b]=some (.bool (decide (b<a))):=dn_ P t cx cy k a b (by show some (AV.bool (ltI b a))=_;rw [iJ_])
theorem run_leq:(XOp.bin .leq t cx cy).run P [.int k a,.int k b]=some (.bool (decide (a<=b))):=dn_ P t cx cy k a b (by show some (AV.bool (not (ltI b a)))=_;rw [iJ_,gS_])
theorem run_geq:(XOp.bin .geq t cx cy).run P [.int k a,.int k b]=some (.bool (decide (b<=a))):=dn_ P t cx cy k a b (by show some (AV.bool (not (ltI a b)))=_;rw [iJ_,gS_])
theorem run_eql:(XOp.bin .eql t cx cy).run P [.int k a,.int k b]=some (.bool (decide (a=b))):=dn_ P t cx cy k a b (by show some (AV.bool (eqI a b))=_;rw [fy_];rfl)
theorem run_neq:(XOp.bin .neq t cx cy).run P [.int k a,.int k b]=some (.bool (!decide (a=b))):=dn_ P t cx cy k a b (by show some (AV.bool (not (eqI a b)))=_;rw [fy_];rfl)
theorem run_add:(XOp.bin .add t cx cy).run P [.int k a,.int k b]=some (.int k (k.wrap (a+b))):=dn_ P t cx cy k a b (by show some (mkI k (el_ k (Int.add a b)))=_;rw [d3_,dQ_];rfl)
theorem run_sub:(XOp.bin .sub t cx cy).run P [.int k a,.int k b]=some (.int k (k.wrap (a-b))):=dn_ P t cx cy k a b (by show some (mkI k (el_ k (Int.sub a b)))=_;rw [d3_,dQ_];rfl)
theorem uN_ (x:Bool):(XOp.un .not).run P [.bool x]=some (.bool (!x)):=rfl
variable {P t}
end
theorem u7_ {x:Int} (h1: -9223372036854775808<=x) (h2:x<=9223372036854775807):IntKind.i64.wrap x=x:=by simp [IntKind.wrap,IntKind.bits,IntKind.signed];omega
variable [Gl]
theorem uD_ {P:Program} (hm:P.follows .mixedOrders=true) (ho:pm_ P) {f:FuncId} {ft:FT} {vs:List AV} {R:Nat->List AV->Prop} {c:VC} {n:Nat} {t:VT} (hlen:vs.length=ft.ent.nv) (hk:∀Y,Fresh Y 64->KnownF P c.fc (Y.puts 64 vs))
  (ht:uv_ P n c f ft=t) (h:∀Y,Fresh Y 64->Gl.gt Y.v->VOK P (QF R) [] (Y.puts 64 vs) t):CF P f ft vs R:=
 ⟨hlen,λY hf B pr E w us hy hg hr hcon=>by obtain ⟨p1,_,_,p4⟩:=hf.puts vs;rw [hlen]at p1;have hgt:Gl.gt Y.v:=Gl.gtm _ _ (λi hi=>by rw [hy.v];exact (p4 i hi).symm) hg.2;exact sN_ (c:=c) (fuel:=n) hm (dC_ hm ho n) ⟨p1,hk Y hf⟩ (by rw [ht];exact h Y hf hgt) B pr E w us hy hg hr hcon⟩
end Go.Sx
namespace Go.Sx
section
variable [Gl] {P:Program} {Q:AV->Prop} {L:List (Nat->List AV->Prop)} {Y:Sy}
theorem uR_ {op:XOp} {args:List AV} {n:Nat} {t:VT} {r:AV} (h1:op.run P (ab_ Y.v args)=some r) (h2:okC r=true) (h3:VOK P Q L (Y.put n r) t):VOK P Q L Y (.lt op args n none t):=⟨r,h1,h2,h3⟩
theorem uC_ {op:XOp} {args:List AV} {n k:Nat} {t:VT} {cs:List AV} (h1:op.run P (ab_ Y.v args)=some (.agg cs)) (hl:cs.length=k) (h2:okL cs=true) (h3:VOK P Q L (Y.puts n cs) t):VOK P Q L Y (.lt op args n (some k) t):=⟨cs,h1,hl,h2,h3⟩
theorem uB_ {i:Nat} {a b:VT} {t:Bool} (h:Y.v i=some (.bool t)) (h1:t=true->VOK P Q L Y a) (h2:t=false->VOK P Q L Y b):VOK P Q L Y (.ite i a b):=⟨t,h,h1,h2⟩
theorem t8_ {f:FuncId} {args:List AV} {n:Nat} {sh:List (Option Nat)} {t:VT} {v:AV} {vs:List AV} (h1:kD_ P f (ab_ Y.v args) v) (h2:hr_ sh v=some vs) (h3:okL vs=true) (h4:VOK P Q L (Y.puts n vs) t):VOK P Q L Y (.call f args n sh t):=
 ⟨v,vs,h1,h2,h3,h4⟩
theorem uA_ {k:Chk} {t:VT} (h:k.ok Y) (h1:VOK P Q L Y t):VOK P Q L Y (.chk k t):=⟨h,h1⟩
theorem t0_ {f:FuncId} {ft:FT} {hv:List AV} {n:Nat} {bs:VTs} {R:Nat->List AV->Prop} (h1:CF P f ft (ab_ Y.v hv) R) (h2:okL (ab_ Y.v hv)=true) (h3:r1_ P Q R L (Y.puts n (ab_ Y.v hv)) (Nat.add n ft.ent.nv) 0 bs):VOK P Q L Y (.callF f ft hv n bs):=⟨R,h1,h2,h3⟩
theorem VOK_fin {R:Nat->List AV->Prop} {j:Nat} {hv:List AV} (h1:okL (ab_ Y.v hv)=true) (h:R j (ab_ Y.v hv)):VOK P (QF R) L Y (.done (.tup (.int .i64 (.ofNat j)::hv))):=⟨j,_,rfl,h1,h⟩
theorem t9_ {v:AV} (h:Q (den Y.v v)):VOK P Q L Y (.done v):=h
theorem tZ_ {lvl j:Nat} {hv:List AV} {R:Nat->List AV->Prop} (h1:L[lvl]? =some R) (h2:R j (ab_ Y.v hv)):VOK P Q L Y (.again lvl j hv):=⟨R,h1,h2⟩
open Classical in
theorem ua_ {ι:Type} (st:ι->List AV) (p:ι->Prop) (μ:ι->Nat) (i0:ι) (h0:p i0) {n nv:Nat} {hv:List AV} {t:VT} (he:ab_ Y.v hv=st i0) (hok:∀i,p i->okL (st i)=true)
  (hμ:∀i j,p i->p j->st i=st j->μ i=μ j) (hb:∀i,p i->VOK P Q (L++[λ_ vs=>∃i',p i'/\vs=st i'/\μ i'<μ i]) (Y.puts n (st i)) t):VOK P Q L Y (.loop n 0 hv (.cons nv t .nil)):=by
 let m:List AV->Nat:=λvs=>if h:∃i,p i/\vs=st i then μ (Classical.choose h)else 0
 have hm:∀i,p i->m (st i)=μ i:=λi hi=>by have h:∃j,p j/\st i=st j:=⟨i,hi,rfl⟩;simp only [m,dif_pos h];obtain ⟨h1,h2⟩:=Classical.choose_spec h;exact hμ _ _ h1 hi h2.symm
 refine ⟨λ_ vs=>∃i,p i/\vs=st i,λ_ vs=>m vs,λj vs ⟨i,h1,h2⟩=>by rw [h2];exact hok i h1,⟨i0,h0,he⟩,λvs hvs hI=>?_,trivial⟩;obtain ⟨i,h1,h2⟩:=hI;subst h2;have e:(λ(_:Nat) (vs':List AV)=>(∃i',p i'/\vs'=st i')/\m vs'<m (st i))=λ_ vs'=>∃i',p i'/\vs'=st i'/\μ i'<μ i:=by
  funext _ vs'
  refine propext ⟨λh=>?_,λh=>?_⟩;obtain ⟨⟨i',g1,g2⟩,g3⟩:=h;subst g2;rw [hm i' g1,hm i h1]at g3;exact ⟨i',g1,rfl,g3⟩;obtain ⟨i',g1,g2,g3⟩:=h;subst g2;exact ⟨⟨i',g1,rfl⟩,by rw [hm i' g1,hm i h1];exact g3⟩
 simp only [e];exact hb i h1
end
theorem g2_:∀(n:Nat) (sh:List (Option Nat)),ad_ (bq_ n sh)=true
 |_,[]=>rfl
 |n,none::s=>by simp only [bq_,ad_,ae_];exact g2_ _ s
 |n,some m::s=>by simp only [bq_,ad_,ae_,hB_];exact g2_ _ s
theorem gE_:∀{sh:List (Option Nat)} {l vs:List AV},flat sh l=some vs->okL vs=true->jy_ l=true
 |[],[],vs,h,_=>rfl
 |none::s,a::r,vs,h,hok=>by unfold flat at h;split at h;rename_i l' hl;cases h;rw [aN_]at hok;obtain ⟨k1,k2⟩:=aa_ hok;simp only [jy_,oX_ k1,gE_ hl k2];cases h
 |some m::s,a::r,vs,h,hok=>by have ha:∃cs,a=.agg cs:=(by cases a<;>first|exact ⟨_,rfl⟩|(cases h));obtain ⟨cs,rfl⟩:=ha;simp only [flat]at h;split at h;split at h;rename_i l' hl;cases h;obtain ⟨k1,k2⟩:=fC_ hok;simp only [jy_,okI,k1,gE_ hl k2];cases h;cases h
 |[],_::_,vs,h,_=>by cases h
 |none::_,[],vs,h,_=>by cases h
 |some _::_,[],vs,h,_=>by cases h
theorem fw_ {s:Nat->Option AV}:∀(sh:List (Option Nat)) (n:Nat) (l vs:List AV),flat sh l=some vs->(∀i a,vs[i]? =some a->s (n+i)=some a)->ab_ s (bq_ n sh)=l
 |[],n,[],vs,h,_=>rfl
 |none::sh,n,a::r,vs,h,hs=>by unfold flat at h;split at h;rename_i l' hl;cases h;have h0:s n=some a:=(by simpa using hs 0 a rfl);simp only [bq_,ab_,den,h0];rw [fw_ sh (n+1) r l' hl λi b hb=>by have:=hs (i+1) b (by simpa using hb);rw [show n+1+i=n+(i+1) by omega];exact this];cases h
 |some m::sh,n,a::r,vs,h,hs=>by have ha:∃cs,a=.agg cs:=(by cases a<;>first|exact ⟨_,rfl⟩|(cases h));obtain ⟨cs,rfl⟩:=ha;simp only [flat]at h;split at h;rename_i hd;have hd:cs.length=m:=of_decide_eq_true hd;subst hd;split at h;rename_i l' hl;cases h;simp only [bq_,ab_,den];show AV.agg (ab_ s (ah_ n cs.length))::ab_ s (bq_ (n+cs.length) sh)=_;rw [fw_ sh (n+cs.length) r l' hl λi b hb=>by have:=hs (cs.length+i) b (by rw [List.getElem?_append_right (by omega)];simpa using hb);rw [show n+cs.length+i=n+(cs.length+i) by omega];exact this];rw [den_symsL n cs λi b hb=>hs i b (by rw [List.getElem?_append_left (by exact (List.getElem?_eq_some_iff.1 hb).1)];exact hb)];cases h;cases h
 |[],_,_::_,vs,h,_=>by cases h
 |none::_,_,[],vs,h,_=>by cases h
 |some _::_,_,[],vs,h,_=>by cases h
where
 den_symsL {s:Nat->Option AV}:∀(n:Nat) (cs:List AV),(∀i a,cs[i]? =some a->s (n+i)=some a)->ab_ s (ah_ n cs.length)=cs
 |n,[],_=>rfl
 |n,a::r,h=>by have h0:s n=some a:=(by simpa using h 0 a rfl);simp only [List.length_cons,ah_,ab_,den,h0];rw [den_symsL (n+1) r λi b hb=>by have:=h (i+1) b (by simpa using hb);rw [show n+1+i=n+(i+1) by omega];exact this]
theorem tG_ [Gl] {P:Program} (hm:P.follows .mixedOrders=true) (ho:pm_ P) {f:FuncId} {args ls:List AV} {sh:List (Option Nat)} {v:AV} {c:VC} {n m:Nat} {t:VT} (hfl:flat sh args=some ls) (hls:okL ls=true) (hv:aV_ v=true)
  (hk:∀Y,Fresh Y 64->KnownF P c.fc (Y.puts 64 ls)) (hm':64+cL_ sh=m) (ht:vFn P n c f (bq_ 64 sh) m=t) (h:∀Y,Fresh Y 64->Gl.gt Y.v->VOK P (· =v) [] (Y.puts 64 ls) t):kD_ P f args v:=
 pure_sym (args':=bq_ 64 sh) (gE_ hfl hls) hv (g2_ _ _) hls (λY hf=>fw_ sh 64 args ls hfl λi a ha=>b0_ ls hf i a ha) λY hf hg=>
  (rP_ (c:=c) (n:=m) hm (dC_ hm ho n) ⟨by have:=(hf.puts ls).1;rw [eB_ hfl,hm']at this;exact this,hk Y hf⟩ (by rw [ht];exact h Y hf hg)).low
theorem un_ [Gl] {P:Program} (hm:P.follows .mixedOrders=true) (ho:pm_ P) {f:FuncId} {args args' ls:List AV} {v:AV} {c:VC} {n m:Nat} {t:VT} (hok:jy_ args=true) (hso:ad_ args'=true) (hls:okL ls=true) (hv:aV_ v=true)
  (hden:∀Y,Fresh Y 64->ab_ (Y.puts 64 ls).v args'=args) (hk:∀Y,Fresh Y 64->KnownF P c.fc (Y.puts 64 ls)) (hm':64+ls.length=m) (ht:vFn P n c f args' m=t) (h:∀Y,Fresh Y 64->Gl.gt Y.v->VOK P (· =v) [] (Y.puts 64 ls) t):kD_ P f args v:=
 pure_sym (args':=args') hok hv hso hls hden λY hf hg=>
  (rP_ (c:=c) (n:=m) hm (dC_ hm ho n) ⟨by have:=(hf.puts ls).1;rw [hm']at this;exact this,hk Y hf⟩ (by rw [ht];exact h Y hf hg)).low
theorem uZ_ [Gl] {P:Program} (Y:Sy):KnownF P ⟨[],[]⟩ Y:=⟨λf h=>(List.not_mem_nil h).elim,λf h=>(List.not_mem_nil h).elim⟩
def cd_ {α:Type} (enc:α->List AV):List α->List AV
 |[]=>[]
 |a::r=>enc a++cd_ enc r
def dp_ {α:Type} (enc:α->List AV) (w:Nat) (l:List α):AV:=match l with
 |[]=>.nsl
 |a::r=>.vsl (r.length+1) w (cd_ enc (a::r))
section
variable {α:Type} {enc:α->List AV} {w:Nat}
theorem hl_:∀a b:List α,cd_ enc (a++b)=cd_ enc a++cd_ enc b
 |[],b=>rfl
 |x::r,b=>by simp only [List.cons_append,cd_,hl_ r b,List.append_assoc]
theorem eu_ (hw:∀a,(enc a).length=w):∀l:List α,(cd_ enc l).length=l.length*w
 |[]=>by simp [cd_]
 |a::r=>by simp only [cd_,List.length_append,hw,eu_ hw r,List.length_cons,Nat.add_mul];omega
theorem jW_ (hw:∀a,(enc a).length=w):∀(l:List α) (i:Nat),(cd_ enc l).drop (i*w)=cd_ enc (l.drop i)
 |l,0=>by simp
 |[],i+1=>by simp [cd_]
 |a::r,i+1=>by simp only [cd_,List.drop_succ_cons];rw [←jW_ hw r i,Nat.add_mul,Nat.one_mul,Nat.add_comm,←List.drop_drop,List.drop_left' (hw a)]
theorem ot_ (h:∀a,okL (enc a)=true):∀l:List α,okL (cd_ enc l)=true
 |[]=>rfl
 |a::r=>okL_join (h a) (ot_ h r)
where
 okL_join:∀{a b:List AV},okL a=true->okL b=true->okL (a++b)=true
 |[],b,_,h=>h
 |x::r,b,h1,h2=>by rw [aN_]at h1;obtain ⟨k1,k2⟩:=aa_ h1;rw [List.cons_append,aN_,k1,okL_join k2 h2];rfl
mutual
theorem pY_:∀{a:AV},okC a=true->aV_ a=true
 | .opq,h=>by simp [okC]at h
 | .bool _,_=>rfl
 | .int _ _,_=>rfl
 | .flt _ _,_=>rfl
 | .nan _,_=>rfl
 | .str _,_=>rfl
 | .nptr,_=>rfl
 | .ptr _ _,h=>by simp [okC]at h
 | .vptr cs,h=>by simp only [okC]at h;simp only [aV_];exact b8_ h
 | .nsl,_=>rfl
 | .sl ..,h=>by simp [okC]at h
 | .vsl _ _ cs,h=>by simp only [okC]at h;simp only [aV_];exact b8_ h
 | .nmap,_=>rfl
 | .map _,h=>by simp [okC]at h
 | .nfn,_=>rfl
 | .fn _ cs,h=>by simp only [okC]at h;simp only [aV_];exact b8_ h
 | .nif,_=>rfl
 | .iface _ a,h=>by simp only [okC]at h;simp only [aV_];exact kk_ h
 | .agg _,h=>by simp [okC]at h
 | .tup _,h=>by simp [okC]at h
 | .sym _,h=>by simp [okC]at h
 | .slx ..,h=>by simp [okC]at h
 | .ptx ..,h=>by simp [okC]at h
theorem kk_:∀{a:AV},okI a=true->aV_ a=true
 | .opq,h=>by simp [okI]at h
 | .bool _,_=>rfl
 | .int _ _,_=>rfl
 | .flt _ _,_=>rfl
 | .nan _,_=>rfl
 | .str _,_=>rfl
 | .nptr,_=>rfl
 | .ptr _ _,h=>by simp [okI]at h
 | .vptr cs,h=>by simp only [okI]at h;simp only [aV_];exact b8_ h
 | .nsl,_=>rfl
 | .sl ..,h=>by simp [okI]at h
 | .vsl _ _ cs,h=>by simp only [okI]at h;simp only [aV_];exact b8_ h
 | .nmap,_=>rfl
 | .map _,h=>by simp [okI]at h
 | .nfn,_=>rfl
 | .fn _ cs,h=>by simp only [okI]at h;simp only [aV_];exact b8_ h
 | .nif,_=>rfl
 | .iface _ a,h=>by simp only [okI]at h;simp only [aV_];exact kk_ h
 | .agg cs,h=>by simp only [okI]at h;simp only [aV_];exact b8_ h
 | .tup _,h=>by simp [okI]at h
 | .sym _,h=>by simp [okI]at h
 | .slx ..,h=>by simp [okI]at h
 | .ptx ..,h=>by simp [okI]at h
theorem b8_:∀{l:List AV},okL l=true->cF_ l=true
 |[],_=>rfl
 |a::r,h=>by rw [aN_]at h;obtain ⟨h1,h2⟩:=aa_ h;simp only [cF_,pY_ h1,b8_ h2]
end
variable {P:Program} {t e:TypeId} {ti:TypeInfo}
theorem tL_ (ht:P.underlying t=some (.slice e)) (l:List α):(XOp.len t).run P [dp_ enc w l]=some (.int .i64 (l.length:Int)):=by
 cases l with
 |nil=>show ce_ P h0 t .nsl=_;unfold ce_;rw [ht];rfl
 |cons a r=>show ce_ P h0 t (.vsl (r.length+1) w (cd_ enc (a::r)))=_;unfold ce_;rw [ht];rfl
theorem lq_ (ht:P.underlying t=some (.slice e)) (hi:P.info? e=some ti) (hs:ti.size=w) (hw:∀a,(enc a).length=w) {l:List α} {i:Nat} (h:i<l.length) (k:IntKind):
  (XOp.iaddr t).run P [dp_ enc w l,.int k (i:Int)]=some (.vptr (cd_ enc (l.drop i))):=by
 cases l with
 |nil=>simp at h
 |cons a r=>show aR_ P t (.vsl (r.length+1) w _) (.int k (.ofNat i))=_;unfold aR_;have hb:Nat.blt i (r.length+1)=true:=(by simpa [Nat.blt_eq]using h);simp only [ht,hi,idx,hb,hs,aq_];have:=jW_ hw (a::r) i;show some (AV.vptr ((cd_ enc (a::r)).drop (i*w)))=_;rw [this]
theorem hC_:∀(a b:List AV),a5_ a.length (a++b)=some a
 |[],b=>rfl
 |x::r,b=>by simp only [List.length_cons,List.cons_append,a5_,hC_ r b]
theorem run_load_agg {d:TypeDesc} (ht:P.underlying t=some d) (ha:lG_ d=true) (hi:P.info? t=some ti) (hs:ti.size=w) (hw:∀a,(enc a).length=w) {l:List α} {i:Nat} (h:i<l.length):
  (XOp.load t).run P [.vptr (cd_ enc (l.drop i))]=some (.agg (enc l[i])):=by
 show bk_ P h0 t (.vptr _)=_;unfold bk_ aS_;rw [List.drop_eq_getElem_cons h];simp only [ht,ha,hi,hs,cd_];rw [←hw l[i],hC_]
theorem sC_ {d:TypeDesc} (ht:P.underlying t=some d) (ha:lG_ d=false) (x:AV) (r:List AV):(XOp.load t).run P [.vptr (x::r)]=some x:=by show bk_ P h0 t (.vptr _)=_;unfold bk_ aS_;simp only [ht,ha,a5_]
theorem tJ_ {sz bytes:Nat} (hw:∀a,(enc a).length=sz) (hsz:0<sz) (hb:0<bytes) (l:List α) (a:α) (hl:(l.length+1)*bytes<=1073741824):(XOp.app sz bytes).run P [dp_ enc sz l,.agg (enc a)]=some (dp_ enc sz (l++[a])):=by
 have h1:Nat.div (aY_ (enc a)) sz=1:=by rw [aj_,hw];exact Nat.div_self hsz
 have hl1:l.length+1<=1073741824:=Nat.le_trans (Nat.le_mul_of_pos_right _ hb) hl;show (match bD_ sz (.agg (enc a))with|some (n,l')=>kF_ sz bytes (dp_ enc sz l) n l'|none=>none)=_;simp only [bD_,h1];unfold kF_;have hd:decide ((enc a).length=1*sz)=true:=by rw [hw,Nat.one_mul];exact decide_eq_true rfl
 simp only [hd];cases l with
 |nil=>have c1:(Nat.ble (Nat.mul 1 bytes) 1073741824&&Nat.ble 1 1073741824&&Nat.blt 0 bytes)=true:=(by simp only [List.length_nil,Nat.zero_add,Nat.one_mul]at hl;simp [Nat.ble_eq,Nat.blt_eq,hb,hl]);simp only [dp_,c1,List.nil_append,List.length_nil,cd_,List.append_nil]
 |cons b r=>have hd2:decide (sz=sz/\(cd_ enc (b::r)).length=(r.length+1)*sz)=true:=decide_eq_true ⟨rfl,eu_ hw (b::r)⟩;have c1:(Nat.ble (Nat.mul (Nat.add (r.length+1) 1) bytes) 1073741824&&Nat.ble (Nat.add (r.length+1) 1) 1073741824&&Nat.blt 0 bytes)=true:=(by have e1:Nat.mul (Nat.add (r.length+1) 1) bytes=(r.length+1+1)*bytes:=rfl;have e2:Nat.add (r.length+1) 1=r.length+1+1:=rfl;rw [e1,e2];simp only [List.length_cons]at hl hl1;simp [Nat.ble_eq,Nat.blt_eq,hb,hl,hl1]);have hlen:(cd_ enc (b::r)).length=(r.length+1)*sz:=eu_ hw (b::r);have e3:cd_ enc (b::(r++[a]))=cd_ enc (b::r)++enc a:=(by rw [←List.cons_append,hl_];simp only [cd_,List.append_nil]);have e4:(r++[a]).length+1=Nat.add (r.length+1) 1:=(by simp);simp only [dp_,hlen,true_and,decide_true,c1,List.cons_append,e3,e4]
end
def rW_ {α:Type} (enc:α->List AV) (w:Nat) (l:List α):AV:=.vsl l.length w (cd_ enc l)
def SlV {α:Type} (enc:α->List AV) (w:Nat) (l:List α) (a:AV):Prop:=a=rW_ enc w l\/(l=[]/\a=.nsl)
section
variable {α:Type} {enc:α->List AV} {w:Nat}
theorem SlV.v (l:List α):SlV enc w l (rW_ enc w l):=.inl rfl
theorem SlV.eq {l:List α} {a:AV} (h:SlV enc w l a) (hl:l≠[]):a=dp_ enc w l:=by
 rcases h with h|⟨h,_⟩
 .rw [h];cases l with
  |nil=>exact absurd rfl hl
  |cons a r=>rfl
 exact absurd h hl
theorem rX_ (h:∀a,okL (enc a)=true) (l:List α):okC (rW_ enc w l)=true:=by show okL (cd_ enc l)=true;exact ot_ h l
theorem SlV.ok {l:List α} {a:AV} (h:SlV enc w l a) (he:∀a,okL (enc a)=true):okC a=true:=by rcases h with h|⟨_,h⟩;rw [h];exact rX_ he l;rw [h];rfl
variable {P:Program} {t e:TypeId} {ti:TypeInfo}
theorem SlV.len {l:List α} {a:AV} (h:SlV enc w l a) (ht:P.underlying t=some (.slice e)):(XOp.len t).run P [a]=some (.int .i64 (l.length:Int)):=by rcases h with h|⟨h1,h⟩;subst h;show ce_ P h0 t (.vsl l.length w (cd_ enc l))=_;unfold ce_;rw [ht];rfl;subst h h1;show ce_ P h0 t .nsl=_;unfold ce_;rw [ht];rfl
theorem SlV.ia {l:List α} {a:AV} (h:SlV enc w l a) (ht:P.underlying t=some (.slice e)) (hi:P.info? e=some ti) (hs:ti.size=w) (hw:∀a,(enc a).length=w) {i:Nat} (hl:i<l.length) (k:IntKind):
  (XOp.iaddr t).run P [a,.int k (i:Int)]=some (.vptr (cd_ enc (l.drop i))):=by
 rw [h.eq (λe=>by rw [e]at hl;simp at hl)];exact lq_ ht hi hs hw hl k
end
end Go.Sx
namespace Go.Sx
section
variable {P:Program} {t:TypeId}
theorem sb_ (a b:List UInt8):eqB a b=decide (a=b):=by
 by_cases h:a=b
 .subst h;rw [decide_eq_true rfl];exact by rw [dU_];exact beq_self_eq_true a
 .rw [decide_eq_false h];cases hb:eqB a b with
  |false=>rfl
  |true=>exact absurd (by rw [dU_]at hb;exact eq_of_beq hb) h
theorem uM_ (cx cy:Bool) (a b:List UInt8):(XOp.bin .neq t cx cy).run P [.str a,.str b]=some (.bool (!decide (a=b))):=by show some (AV.bool (not (eqB a b)))=_;rw [sb_]
theorem tf_ {s d:TypeId} {ds:TypeDesc} {k j:IntKind} (hs:P.underlying s=some ds) (hd:P.underlying d=some (.int k)) (n:Int):(XOp.conv s d).run P [.int j n]=some (.int k (k.wrap n)):=by show co_ P h0 s d (.int j n)=_;unfold co_ f1_;simp only [hs,hd,d3_,dQ_]
end
end Go.Sx
