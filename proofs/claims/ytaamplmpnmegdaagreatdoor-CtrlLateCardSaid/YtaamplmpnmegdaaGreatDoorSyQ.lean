/-
  Steps through a tree; slices of elements of one width, as values.
-/
import Derived.Test.YtaamplmpnmegdaaGreatDoorSyP
import Derived.Test.YtaamplmpnmegdaaGreatDoorSyM
import Derived.Test.YtaamplmpnmegdaaGreatDoorSyE
set_option linter.unusedVariables false
set_option linter.unusedSimpArgs false
namespace Go.Sx
section
variable [Gl] {P:Program} {Q:AV->Prop} {L:List (Nat->List AV->Prop)} {Y:Sy}
theorem uX_ {op:XOp} {args:List AV} {n:Nat} {t:VT} {r:AV} (h1:op.run P (ab_ Y.v args)=some r) (h2:okC r=true) (h3:VOK P Q L (Y.put n r) t):VOK P Q L Y (.lt op args n none t):=⟨r,h1,h2,h3⟩
theorem uK_ {i:Nat} {a b:VT} {t:Bool} (h:Y.v i=some (.bool t)) (h1:t=true->VOK P Q L Y a) (h2:t=false->VOK P Q L Y b):VOK P Q L Y (.ite i a b):=⟨t,h,h1,h2⟩
theorem uc_ {f:FuncId} {args:List AV} {n:Nat} {sh:List (Option Nat)} {t:VT} {v:AV} {vs:List AV} (h1:hR_ P f (ab_ Y.v args) v) (h2:hd_ sh v=some vs) (h3:okL vs=true) (h4:VOK P Q L (Y.puts n vs) t):VOK P Q L Y (.call f args n sh t):=
 ⟨v,vs,h1,h2,h3,h4⟩
theorem ud_ {v:AV} (h:Q (den Y.v v)):VOK P Q L Y (.done v):=h
theorem t3_ {lvl j:Nat} {hv:List AV} {R:Nat->List AV->Prop} (h1:L[lvl]? =some R) (h2:R j (ab_ Y.v hv)):VOK P Q L Y (.again lvl j hv):=⟨R,h1,h2⟩
open Classical in
theorem ue_ {ι:Type} (st:ι->List AV) (p:ι->Prop) (μ:ι->Nat) (i0:ι) (h0:p i0) {n nv:Nat} {hv:List AV} {t:VT} (he:ab_ Y.v hv=st i0) (hok:∀i,p i->okL (st i)=true)
  (hμ:∀i j,p i->p j->st i=st j->μ i=μ j) (hb:∀i,p i->VOK P Q (L++[λ_ vs=>∃i',p i'/\vs=st i'/\μ i'<μ i]) (Y.puts n (st i)) t):VOK P Q L Y (.loop n 0 hv (.cons nv t .nil)):=by
 let m:List AV->Nat:=λvs=>if h:∃i,p i/\vs=st i then μ (Classical.choose h)else 0
 have hm:∀i,p i->m (st i)=μ i:=λi hi=>by
  have h:∃j,p j/\st i=st j:=⟨i,hi,rfl⟩
  grind
 refine ⟨λ_ vs=>∃i,p i/\vs=st i,λ_ vs=>m vs,λj vs ⟨i,h1,h2⟩=>by grind,⟨i0,h0,he⟩,λvs hvs hI=>?_,trivial⟩;obtain ⟨i,h1,h2⟩:=hI;subst h2;have e:(λ(_:Nat) (vs':List AV)=>(∃i',p i'/\vs'=st i')/\m vs'<m (st i))=λ_ vs'=>∃i',p i'/\vs'=st i'/\μ i'<μ i:=by
  funext _ vs'
  refine propext ⟨λh=>?_,λh=>?_⟩
  .grind
  .obtain ⟨i',g1,g2,g3⟩:=h;subst g2
   grind
 grind
end
theorem gS_:∀(n:Nat) (sh:List (Option Nat)),ad_ (bT_ n sh)=true
 |_,[]=>rfl
 |n,none::s=>by simp only [bT_,ad_,ah_];exact gS_ _ s
 |n,some m::s=>by simp only [bT_,ad_,ah_,hn_];exact gS_ _ s
theorem gx_:∀{sh:List (Option Nat)} {l vs:List AV},flat sh l=some vs->okL vs=true->iD_ l=true
 |[],[],vs,h,_=>rfl
 |none::s,a::r,vs,h,hok=>by unfold flat at h;split at h;rename_i l' hl;cases h;rw [aU_]at hok;obtain ⟨k1,k2⟩:=aa_ hok;simp only [iD_,sv_ k1,gx_ hl k2];cases h
 |some m::s,a::r,vs,h,hok=>by have ha:∃cs,a=.agg cs:=(by cases a<;>first|exact ⟨_,rfl⟩|(cases h));obtain ⟨cs,rfl⟩:=ha;simp only [flat]at h;split at h;split at h;rename_i l' hl;cases h;obtain ⟨k1,k2⟩:=fy_ hok;simp only [iD_,okI,k1,gx_ hl k2];cases h;cases h
 |[],_::_,vs,h,_=>by cases h
 |none::_,[],vs,h,_=>by cases h
 |some _::_,[],vs,h,_=>by cases h
theorem fp_ {s:Nat->Option AV}:∀(sh:List (Option Nat)) (n:Nat) (l vs:List AV),flat sh l=some vs->(∀i a,vs[i]? =some a->s (n+i)=some a)->ab_ s (bT_ n sh)=l
 |[],n,[],vs,h,_=>rfl
 |none::sh,n,a::r,vs,h,hs=>by
  unfold flat at h;split at h
  .rename_i l' hl;cases h;have h0:s n=some a:=(by simpa using hs 0 a rfl);simp only [bT_,ab_,den,h0];rw [fp_ sh (n+1) r l' hl λi b hb=>by
    have:=hs (i+1) b (by grind)
    grind]
  cases h
 |some m::sh,n,a::r,vs,h,hs=>by
  have ha:∃cs,a=.agg cs:=(by cases a<;>first|exact ⟨_,rfl⟩|(cases h));obtain ⟨cs,rfl⟩:=ha;simp only [flat]at h;split at h
  .rename_i hd;have hd:cs.length=m:=of_decide_eq_true hd;subst hd;split at h
   .rename_i l' hl;cases h;show AV.agg (ab_ s (ae_ n cs.length))::ab_ s (bT_ (n+cs.length) sh)=_;rw [fp_ sh (n+cs.length) r l' hl λi b hb=>by
     have:=hs (cs.length+i) b (by grind)
     grind]
    rw [den_symsL n cs λi b hb=>hs i b (by
     grind)]
   cases h
  cases h
 |[],_,_::_,vs,h,_=>by cases h
 |none::_,_,[],vs,h,_=>by cases h
 |some _::_,_,[],vs,h,_=>by cases h
where
 den_symsL {s:Nat->Option AV}:∀(n:Nat) (cs:List AV),(∀i a,cs[i]? =some a->s (n+i)=some a)->ab_ s (ae_ n cs.length)=cs
 |n,[],_=>rfl
 |n,a::r,h=>by
  have h0:s n=some a:=(by simpa using h 0 a rfl);simp only [List.length_cons,ae_,ab_,den,h0];rw [den_symsL (n+1) r λi b hb=>by
   have:=h (i+1) b (by grind)
   grind]
theorem tJ_ [Gl] {P:Program} (hm:P.follows .mixedOrders=true) (ho:lq_ P) {f:FuncId} {args ls:List AV} {sh:List (Option Nat)} {v:AV} {c:VC} {n m:Nat} {t:VT} (hfl:flat sh args=some ls) (hls:okL ls=true) (hv:aW_ v=true)
  (hk:∀Y,Fresh Y 64->KnownF P c.fc (Y.puts 64 ls)) (hm':64+dj_ sh=m) (ht:vFn P n c f (bT_ 64 sh) m=t) (h:∀Y,Fresh Y 64->Gl.gt Y.v->VOK P (· =v) [] (Y.puts 64 ls) t):hR_ P f args v:=
 pure_sym (args':=bT_ 64 sh) (gx_ hfl hls) hv (gS_ _ _) hls (λY hf=>fp_ sh 64 args ls hfl λi a ha=>bF_ ls hf i a ha) λY hf hg=>
  (rO_ (c:=c) (n:=m) hm (cT_ hm ho n) ⟨by have:=(hf.puts ls).1;grind [fY_],hk Y hf⟩ (by grind)).low
theorem pure_pat [Gl] {P:Program} (hm:P.follows .mixedOrders=true) (ho:lq_ P) {f:FuncId} {args args' ls:List AV} {v:AV} {c:VC} {n m:Nat} {t:VT} (hok:iD_ args=true) (hso:ad_ args'=true) (hls:okL ls=true) (hv:aW_ v=true)
  (hden:∀Y,Fresh Y 64->ab_ (Y.puts 64 ls).v args'=args) (hk:∀Y,Fresh Y 64->KnownF P c.fc (Y.puts 64 ls)) (hm':64+ls.length=m) (ht:vFn P n c f args' m=t) (h:∀Y,Fresh Y 64->Gl.gt Y.v->VOK P (· =v) [] (Y.puts 64 ls) t):hR_ P f args v:=
 pure_sym (args':=args') hok hv hso hls hden λY hf hg=>
  (rO_ (c:=c) (n:=m) hm (cT_ hm ho n) ⟨by have:=(hf.puts ls).1;grind,hk Y hf⟩ (by grind)).low
theorem u4_ [Gl] {P:Program} (Y:Sy):KnownF P ⟨[],[]⟩ Y:=⟨λf h=>(List.not_mem_nil h).elim,λf h=>(List.not_mem_nil h).elim⟩
def h6_ {α:Type} (enc:α->List AV):List α->List AV
 |[]=>[]
 |a::r=>enc a++h6_ enc r
def o4_ {α:Type} (enc:α->List AV) (w:Nat) (l:List α):AV:=match l with
 |[]=>.nsl
 |a::r=>.vsl (r.length+1) w (h6_ enc (a::r))
section
variable {α:Type} {enc:α->List AV} {w:Nat}
theorem jK_ (hw:∀a,(enc a).length=w):∀(l:List α) (i:Nat),(h6_ enc l).drop (i*w)=h6_ enc (l.drop i)
 |l,0=>by simp
 |[],i+1=>by simp [h6_]
 |a::r,i+1=>by simp only [h6_,List.drop_succ_cons];rw [←jK_ hw r i,Nat.add_mul,Nat.one_mul,Nat.add_comm,←List.drop_drop,List.drop_left' (hw a)]
theorem oj_ (h:∀a,okL (enc a)=true):∀l:List α,okL (h6_ enc l)=true
 |[]=>rfl
 |a::r=>okL_join (h a) (oj_ h r)
where
 okL_join:∀{a b:List AV},okL a=true->okL b=true->okL (a++b)=true
 |[],b,_,h=>h
 |x::r,b,h1,h2=>by rw [aU_]at h1;obtain ⟨k1,k2⟩:=aa_ h1;rw [List.cons_append,aU_,k1,okL_join k2 h2];rfl
mutual
theorem pV_:∀{a:AV},okC a=true->aW_ a=true
 | .opq,h=>by simp [okC]at h
 | .bool _,_=>rfl
 | .int _ _,_=>rfl
 | .flt _ _,_=>rfl
 | .nan _,_=>rfl
 | .str _,_=>rfl
 | .nptr,_=>rfl
 | .ptr _ _,h=>by simp [okC]at h
 | .vptr cs,h=>by simp only [okC]at h;simp only [aW_];exact bX_ h
 | .nsl,_=>rfl
 | .sl ..,h=>by simp [okC]at h
 | .vsl _ _ cs,h=>by simp only [okC]at h;simp only [aW_];exact bX_ h
 | .nmap,_=>rfl
 | .map _,h=>by simp [okC]at h
 | .nfn,_=>rfl
 | .fn _ cs,h=>by simp only [okC]at h;simp only [aW_];exact bX_ h
 | .nif,_=>rfl
 | .iface _ a,h=>by simp only [okC]at h;simp only [aW_];exact j8_ h
 | .agg _,h=>by simp [okC]at h
 | .tup _,h=>by simp [okC]at h
 | .sym _,h=>by simp [okC]at h
 | .slx ..,h=>by simp [okC]at h
 | .ptx ..,h=>by simp [okC]at h
theorem j8_:∀{a:AV},okI a=true->aW_ a=true
 | .opq,h=>by simp [okI]at h
 | .bool _,_=>rfl
 | .int _ _,_=>rfl
 | .flt _ _,_=>rfl
 | .nan _,_=>rfl
 | .str _,_=>rfl
 | .nptr,_=>rfl
 | .ptr _ _,h=>by simp [okI]at h
 | .vptr cs,h=>by simp only [okI]at h;simp only [aW_];exact bX_ h
 | .nsl,_=>rfl
 | .sl ..,h=>by simp [okI]at h
 | .vsl _ _ cs,h=>by simp only [okI]at h;simp only [aW_];exact bX_ h
 | .nmap,_=>rfl
 | .map _,h=>by simp [okI]at h
 | .nfn,_=>rfl
 | .fn _ cs,h=>by simp only [okI]at h;simp only [aW_];exact bX_ h
 | .nif,_=>rfl
 | .iface _ a,h=>by simp only [okI]at h;simp only [aW_];exact j8_ h
 | .agg cs,h=>by simp only [okI]at h;simp only [aW_];exact bX_ h
 | .tup _,h=>by simp [okI]at h
 | .sym _,h=>by simp [okI]at h
 | .slx ..,h=>by simp [okI]at h
 | .ptx ..,h=>by simp [okI]at h
theorem bX_:∀{l:List AV},okL l=true->b5_ l=true
 |[],_=>rfl
 |a::r,h=>by rw [aU_]at h;obtain ⟨h1,h2⟩:=aa_ h;simp only [b5_,pV_ h1,bX_ h2]
end
variable {P:Program} {t e:TypeId} {ti:TypeInfo}
theorem lb_ (ht:P.underlying t=some (.slice e)) (hi:P.info? e=some ti) (hs:ti.size=w) (hw:∀a,(enc a).length=w) {l:List α} {i:Nat} (h:i<l.length) (k:IntKind):
  (XOp.iaddr t).run P [o4_ enc w l,.int k (i:Int)]=some (.vptr (h6_ enc (l.drop i))):=by
 cases l with
 |nil=>simp at h
 |cons a r=>
  show aL_ P t (.vsl (r.length+1) w _) (.int k (.ofNat i))=_;unfold aL_;have hb:Nat.blt i (r.length+1)=true:=(by simp_all);simp only [ht,hi,idx,hb,hs,az_]
  grind [jK_]
theorem sG_ {d:TypeDesc} (ht:P.underlying t=some d) (ha:m8_ d=false) (x:AV) (r:List AV):(XOp.load t).run P [.vptr (x::r)]=some x:=by
 show bp_ P h0 t (.vptr _)=_
 grind [bp_,aQ_,a7_]
end
def ph_ {α:Type} (enc:α->List AV) (w:Nat) (l:List α):AV:=.vsl l.length w (h6_ enc l)
def SlV {α:Type} (enc:α->List AV) (w:Nat) (l:List α) (a:AV):Prop:=a=ph_ enc w l\/(l=[]/\a=.nsl)
section
variable {α:Type} {enc:α->List AV} {w:Nat}
theorem SlV.v (l:List α):SlV enc w l (ph_ enc w l):=.inl rfl
theorem SlV.eq {l:List α} {a:AV} (h:SlV enc w l a) (hl:l≠[]):a=o4_ enc w l:=by
 rcases h with h|⟨h,_⟩
 .rw [h];cases l with
  |nil=>grind
  |cons a r=>rfl
 grind
theorem rV_ (h:∀a,okL (enc a)=true) (l:List α):okC (ph_ enc w l)=true:=by
 grind [oj_,okC,ph_]
theorem SlV.ok {l:List α} {a:AV} (h:SlV enc w l a) (he:∀a,okL (enc a)=true):okC a=true:=by
 grind [rV_,Go.Sx.okC,Go.Sx.SlV]
variable {P:Program} {t e:TypeId} {ti:TypeInfo}
theorem SlV.len {l:List α} {a:AV} (h:SlV enc w l a) (ht:P.underlying t=some (.slice e)):(XOp.len t).run P [a]=some (.int .i64 (l.length:Int)):=by
 rcases h with h|⟨h1,h⟩
 .subst h;show cY_ P h0 t (.vsl l.length w (h6_ enc l))=_;grind [cY_]
 .subst h h1;show cY_ P h0 t .nsl=_;grind [cY_]
theorem SlV.ia {l:List α} {a:AV} (h:SlV enc w l a) (ht:P.underlying t=some (.slice e)) (hi:P.info? e=some ti) (hs:ti.size=w) (hw:∀a,(enc a).length=w) {i:Nat} (hl:i<l.length) (k:IntKind):
  (XOp.iaddr t).run P [a,.int k (i:Int)]=some (.vptr (h6_ enc (l.drop i))):=by
 rw [h.eq (λe=>by grind)]
 grind [lb_]
end
end Go.Sx
namespace Go.Sx
section
variable {P:Program} {t:TypeId}
theorem tk_ {s d:TypeId} {ds:TypeDesc} {k j:IntKind} (hs:P.underlying s=some ds) (hd:P.underlying d=some (.int k)) (n:Int):(XOp.conv s d).run P [.int j n]=some (.int k (k.wrap n)):=by
 show cW_ P h0 s d (.int j n)=_
 grind [cW_,fV_,dS_,dG_]
end
section
variable {P:Program}
theorem uC_ {k:IntKind} {x c:Int} (hc:c≠0) (t:TypeId) (cx cy:Bool):(XOp.bin .rem t cx cy).run P [.int k x,.int k c]=some (.int k (x.tmod c)):=sF_ hc rfl t cx cy
end
theorem tj_ {P:Program} {g:Nat} {l:List (FuncId×List AV×AV)} {rd:RD} {f:FuncId} {args:List AV} {v:AV} (hp: @hR_ (er_ g l rd) P f args v) (w:World) (ps:List MemPlace) {vs:List Value} {m:Int}
  (hw:w.cell? ⟨g,0,none⟩=some (.int .i64 m)) (hn:b5_ args=true) (hc:ConL (lN_ (ii_ w (.cell g 0::ps))) args vs):
  Calls P f ⟨vs⟩ w λe w'=>(∃E u,e=.returned u/\Con E v u)/\GrownB w w':=by
 let E:Env:={ lN_ (ii_ w (.cell g 0::ps))with sy:=λi=>if i=0 then some (.int .i64 m)else none }
 have hr:Rel w (λb=>b<w.heap.size) E H0 w:={
  own:=⟨λ_=>none,λid k hk=>(kV_ hk).elim,λ_ _=>rfl,λ_ _ _ _=>rfl⟩
  imm:=sj_ w _
  ib:=λ_ _ _ _ h=>h
  fresh:=λ_ _ _=>rfl
  resv:=λ_ h=>h.elim
  vds:=λ_ h=>h.elim
  szs:=λ_ _ h=>by cases h
  prot:=λb h=>⟨h,rfl⟩
  size:=Nat.le_refl _
  os:=rfl
  output:=rfl }
 have hg: @GlOk (er_ g l rd) E:=by
  refine ⟨λi=>?_,m,rfl,λi _ hn=>by grind⟩;show Con E (glI g i) _;unfold glI;split
  .rename_i hb;have:=Nat.eq_of_beq_eq_true hb;subst this;refine ⟨i,0,[.int .i64 m],rfl,⟨_,_,rfl,⟨.int .i64 m,rfl,rfl,by simp [Con0]⟩,rfl⟩,λj v hv=>?_⟩;cases j with
   |zero=>show ii_ w (.cell i 0::ps) i (0+0)=_;simp_all [ii_]
   |succ j=>simp at hv
  simp [Con]
 refine Calls.mono (hp H0 w (λb=>b<w.heap.size) E w vs hg hr (bw_ (E:=lN_ (ii_ w (.cell g 0::ps))) (E':=E) (λ_ _ _ h=>h) (λi a _ h=>by cases h) hn hc)) λe w' he=>?_;obtain ⟨E',_,u,rfl,h1,h2⟩:=he;exact ⟨⟨E',u,rfl,h1⟩,qN_ h2.size (λb hb=>(h2.prot b hb).2) h2.os h2.output⟩
end Go.Sx
