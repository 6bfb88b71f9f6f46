/-
  Steps through a tree; slices of elements of one width, as values.
-/
import Derived.Test.YtjconanknjgpnaaGreatSyK
set_option linter.unusedVariables false
set_option linter.unusedSimpArgs false
namespace Go.Sx
section
variable [Gl] {P:Program} {Q:AV->Prop} {L:List (Nat->List AV->Prop)} {Y:Sy}
theorem vx_ {op:XOp} {args:List AV} {n:Nat} {t:VT} {r:AV} (h1:op.run P (ab_ Y.v args)=some r) (h2:okC r=true) (h3:VOK P Q L (Y.put n r) t):VOK P Q L Y (.lt op args n none t):=⟨r,h1,h2,h3⟩
theorem vf_ {op:XOp} {args:List AV} {n k:Nat} {t:VT} {cs:List AV} (h1:op.run P (ab_ Y.v args)=some (.agg cs)) (hl:cs.length=k) (h2:okL cs=true) (h3:VOK P Q L (Y.puts n cs) t):VOK P Q L Y (.lt op args n (some k) t):=⟨cs,h1,hl,h2,h3⟩
theorem ve_ {i:Nat} {a b:VT} {t:Bool} (h:Y.v i=some (.bool t)) (h1:t=true->VOK P Q L Y a) (h2:t=false->VOK P Q L Y b):VOK P Q L Y (.ite i a b):=⟨t,h,h1,h2⟩
theorem uI_ {f:FuncId} {args:List AV} {n:Nat} {sh:List (Option Nat)} {t:VT} {v:AV} {vs:List AV} (h1:jA_ P f (ab_ Y.v args) v) (h2:hB_ sh v=some vs) (h3:okL vs=true) (h4:VOK P Q L (Y.puts n vs) t):VOK P Q L Y (.call f args n sh t):=
 ⟨v,vs,h1,h2,h3,h4⟩
theorem vd_ {k:Chk} {t:VT} (h:k.ok Y) (h1:VOK P Q L Y t):VOK P Q L Y (.chk k t):=⟨h,h1⟩
theorem uw_ {f:FuncId} {ft:FT} {hv:List AV} {n:Nat} {bs:VTs} {R:Nat->List AV->Prop} (h1:CF P f ft (ab_ Y.v hv) R) (h2:okL (ab_ Y.v hv)=true) (h3:sn_ P Q R L (Y.puts n (ab_ Y.v hv)) (Nat.add n ft.ent.nv) 0 bs):VOK P Q L Y (.callF f ft hv n bs):=⟨R,h1,h2,h3⟩
theorem VOK_fin {R:Nat->List AV->Prop} {j:Nat} {hv:List AV} (h1:okL (ab_ Y.v hv)=true) (h:R j (ab_ Y.v hv)):VOK P (QF R) L Y (.done (.tup (.int .i64 (.ofNat j)::hv))):=⟨j,_,rfl,h1,h⟩
theorem uJ_ {v:AV} (h:Q (den Y.v v)):VOK P Q L Y (.done v):=h
theorem uv_ {lvl j:Nat} {hv:List AV} {R:Nat->List AV->Prop} (h1:L[lvl]? =some R) (h2:R j (ab_ Y.v hv)):VOK P Q L Y (.again lvl j hv):=⟨R,h1,h2⟩
open Classical in
theorem uK_ {ι:Type} (st:ι->List AV) (p:ι->Prop) (μ:ι->Nat) (i0:ι) (h0:p i0) {n nv:Nat} {hv:List AV} {t:VT} (he:ab_ Y.v hv=st i0) (hok:∀i,p i->okL (st i)=true)
  (hμ:∀i j,p i->p j->st i=st j->μ i=μ j) (hb:∀i,p i->VOK P Q (L++[λ_ vs=>∃i',p i'/\vs=st i'/\μ i'<μ i]) (Y.puts n (st i)) t):VOK P Q L Y (.loop n 0 hv (.cons nv t .nil)):=by
 let m:List AV->Nat:=λvs=>if h:∃i,p i/\vs=st i then μ (Classical.choose h)else 0
 have hm:∀i,p i->m (st i)=μ i:=λi hi=>by
  have h:∃j,p j/\st i=st j:=⟨i,hi,rfl⟩
  simp only [m,dif_pos h]
  obtain ⟨h1,h2⟩:=Classical.choose_spec h
  exact hμ _ _ h1 hi h2.symm
 refine ⟨λ_ vs=>∃i,p i/\vs=st i,λ_ vs=>m vs,λj vs ⟨i,h1,h2⟩=>by rw [h2];exact hok i h1,⟨i0,h0,he⟩,λvs hvs hI=>?_,trivial⟩
 obtain ⟨i,h1,h2⟩:=hI
 subst h2
 have e:(λ(_:Nat) (vs':List AV)=>(∃i',p i'/\vs'=st i')/\m vs'<m (st i))=λ_ vs'=>∃i',p i'/\vs'=st i'/\μ i'<μ i:=by
  funext _ vs'
  refine propext ⟨λh=>?_,λh=>?_⟩
  .obtain ⟨⟨i',g1,g2⟩,g3⟩:=h
   subst g2
   rw [hm i' g1,hm i h1]at g3
   exact ⟨i',g1,rfl,g3⟩
  .obtain ⟨i',g1,g2,g3⟩:=h
   subst g2
   exact ⟨⟨i',g1,rfl⟩,by rw [hm i' g1,hm i h1];exact g3⟩
 simp only [e]
 exact hb i h1
end
theorem hc_:∀(n:Nat) (sh:List (Option Nat)),ad_ (bu_ n sh)=true
 |_,[]=>rfl
 |n,none::s=>by simp only [bu_,ad_,ae_];exact hc_ _ s
 |n,some m::s=>by simp only [bu_,ad_,ae_,hM_];exact hc_ _ s
theorem gO_:∀{sh:List (Option Nat)} {l vs:List AV},flat sh l=some vs->okL vs=true->mR_ l=true
 |[],[],vs,h,_=>rfl
 |none::s,a::r,vs,h,hok=>by
  unfold flat at h
  split at h
  .rename_i l' hl
   cases h
   rw [aY_]at hok
   obtain ⟨k1,k2⟩:=aa_ hok
   simp only [mR_,sQ_ k1,gO_ hl k2]
  .cases h
 |some m::s,a::r,vs,h,hok=>by
  have ha:∃cs,a=.agg cs:=by cases a<;>first|exact ⟨_,rfl⟩|(cases h)
  obtain ⟨cs,rfl⟩:=ha
  simp only [flat]at h
  split at h
  .split at h
   .rename_i l' hl
    cases h
    obtain ⟨k1,k2⟩:=fN_ hok
    simp only [mR_,okI,k1,gO_ hl k2]
   .cases h
  .cases h
 |[],_::_,vs,h,_=>by cases h
 |none::_,[],vs,h,_=>by cases h
 |some _::_,[],vs,h,_=>by cases h
theorem fH_ {s:Nat->Option AV}:∀(sh:List (Option Nat)) (n:Nat) (l vs:List AV),flat sh l=some vs->(∀i a,vs[i]? =some a->s (n+i)=some a)->ab_ s (bu_ n sh)=l
 |[],n,[],vs,h,_=>rfl
 |none::sh,n,a::r,vs,h,hs=>by
  unfold flat at h
  split at h
  .rename_i l' hl
   cases h
   have h0:s n=some a:=by simpa using hs 0 a rfl
   simp only [bu_,ab_,den,h0]
   rw [fH_ sh (n+1) r l' hl λi b hb=>by
    have:=hs (i+1) b (by simpa using hb)
    rw [show n+1+i=n+(i+1) by omega];exact this]
  .cases h
 |some m::sh,n,a::r,vs,h,hs=>by
  have ha:∃cs,a=.agg cs:=by cases a<;>first|exact ⟨_,rfl⟩|(cases h)
  obtain ⟨cs,rfl⟩:=ha
  simp only [flat]at h
  split at h
  .rename_i hd
   have hd:cs.length=m:=of_decide_eq_true hd
   subst hd
   split at h
   .rename_i l' hl
    cases h
    simp only [bu_,ab_,den]
    show AV.agg (ab_ s (ai_ n cs.length))::ab_ s (bu_ (n+cs.length) sh)=_
    rw [fH_ sh (n+cs.length) r l' hl λi b hb=>by
     have:=hs (cs.length+i) b (by rw [List.getElem?_append_right (by omega)];simpa using hb)
     rw [show n+cs.length+i=n+(cs.length+i) by omega];exact this]
    rw [den_symsL n cs λi b hb=>hs i b (by
     rw [List.getElem?_append_left (by exact (List.getElem?_eq_some_iff.1 hb).1)];exact hb)]
   .cases h
  .cases h
 |[],_,_::_,vs,h,_=>by cases h
 |none::_,_,[],vs,h,_=>by cases h
 |some _::_,_,[],vs,h,_=>by cases h
where
 den_symsL {s:Nat->Option AV}:∀(n:Nat) (cs:List AV),(∀i a,cs[i]? =some a->s (n+i)=some a)->ab_ s (ai_ n cs.length)=cs
 |n,[],_=>rfl
 |n,a::r,h=>by
  have h0:s n=some a:=by simpa using h 0 a rfl
  simp only [List.length_cons,ai_,ab_,den,h0]
  rw [den_symsL (n+1) r λi b hb=>by
   have:=h (i+1) b (by simpa using hb)
   rw [show n+1+i=n+(i+1) by omega];exact this]
theorem t8_ [Gl] {P:Program} (hm:P.follows .mixedOrders=true) (ho:kQ_ P) {f:FuncId} {args ls:List AV} {sh:List (Option Nat)} {v:AV} {c:VC} {n m:Nat} {t:VT} (hfl:flat sh args=some ls) (hls:okL ls=true) (hv:aT_ v=true)
  (hk:∀Y,Fresh Y 64->KnownF P c.fc (Y.puts 64 ls)) (hm':64+cQ_ sh=m) (ht:vFn P n c f (bu_ 64 sh) m=t) (h:∀Y,Fresh Y 64->Gl.gt Y.v->VOK P (· =v) [] (Y.puts 64 ls) t):jA_ P f args v:=
 pure_sym (args':=bu_ 64 sh) (gO_ hfl hls) hv (hc_ _ _) hls (λY hf=>fH_ sh 64 args ls hfl λi a ha=>bK_ ls hf i a ha) λY hf hg=>
  (sa_ (c:=c) (n:=m) hm (dc_ hm ho n) ⟨by have:=(hf.puts ls).1;rw [eI_ hfl,hm']at this;exact this,hk Y hf⟩ (by rw [ht];exact h Y hf hg)).low
theorem uZ_ [Gl] {P:Program} (hm:P.follows .mixedOrders=true) (ho:kQ_ P) {f:FuncId} {args args' ls:List AV} {v:AV} {c:VC} {n m:Nat} {t:VT} (hok:mR_ args=true) (hso:ad_ args'=true) (hls:okL ls=true) (hv:aT_ v=true)
  (hden:∀Y,Fresh Y 64->ab_ (Y.puts 64 ls).v args'=args) (hk:∀Y,Fresh Y 64->KnownF P c.fc (Y.puts 64 ls)) (hm':64+ls.length=m) (ht:vFn P n c f args' m=t) (h:∀Y,Fresh Y 64->Gl.gt Y.v->VOK P (· =v) [] (Y.puts 64 ls) t):jA_ P f args v:=
 pure_sym (args':=args') hok hv hso hls hden λY hf hg=>
  (sa_ (c:=c) (n:=m) hm (dc_ hm ho n) ⟨by have:=(hf.puts ls).1;rw [hm']at this;exact this,hk Y hf⟩ (by rw [ht];exact h Y hf hg)).low
theorem vE_ [Gl] {P:Program} (Y:Sy):KnownF P ⟨[],[]⟩ Y:=⟨λf h=>(List.not_mem_nil h).elim,λf h=>(List.not_mem_nil h).elim⟩
end Go.Sx
