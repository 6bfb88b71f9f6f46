/-
  What operations give at values of known forms; a call of symbols, by its tree.
-/
import Derived.Test.YtijpblconliffaaGreatDoorSyP
import Derived.Test.YtijpblconliffaaGreatDoorSyM
import Derived.Test.YtijpblconliffaaGreatDoorSyD
set_option linter.unusedVariables false
set_option linter.unusedSimpArgs false
namespace Go.Sx
section
variable (P:Program) (t:TypeId) (cx cy:Bool) (k:IntKind) (a b:Int)
theorem kix_self:Nat.beq (kix k) (kix k)=true:=Nat.beq_refl _
theorem dm_ {op:BinOp} {r:AV} (h:dG_ op k a b=some r):(XOp.bin op t cx cy).run P [.int k a,.int k b]=some r:=by
 show d2_ P op k a k b=some r
 grind [d2_,kix_self]
theorem run_lss:(XOp.bin .lss t cx cy).run P [.int k a,.int k b]=some (.bool (decide (a<b))):=dm_ P t cx cy k a b (by grind [k7_,dG_])
theorem run_gtr:(XOp.bin .gtr t cx cy).run P [.int k a,.int k b]=some (.bool (decide (b<a))):=dm_ P t cx cy k a b (by grind [k7_,dG_])
theorem run_geq:(XOp.bin .geq t cx cy).run P [.int k a,.int k b]=some (.bool (decide (b<=a))):=dm_ P t cx cy k a b (by grind [k7_,dG_])
theorem run_eql:(XOp.bin .eql t cx cy).run P [.int k a,.int k b]=some (.bool (decide (a=b))):=dm_ P t cx cy k a b (by grind [fC_,dG_])
theorem run_neq:(XOp.bin .neq t cx cy).run P [.int k a,.int k b]=some (.bool (!decide (a=b))):=dm_ P t cx cy k a b (by grind [fC_,dG_])
theorem run_add:(XOp.bin .add t cx cy).run P [.int k a,.int k b]=some (.int k (k.wrap (a+b))):=dm_ P t cx cy k a b (by grind [cB_,de_,dG_])
theorem run_sub:(XOp.bin .sub t cx cy).run P [.int k a,.int k b]=some (.int k (k.wrap (a-b))):=dm_ P t cx cy k a b (by grind [cB_,de_,dG_])
theorem run_mul:(XOp.bin .mul t cx cy).run P [.int k a,.int k b]=some (.int k (k.wrap (a*b))):=dm_ P t cx cy k a b (by grind [cB_,de_,dG_])
theorem vn_ (x:Bool):(XOp.un .not).run P [.bool x]=some (.bool (!x)):=rfl
variable {P t}
theorem tB_ (ht:P.underlying t=some .string) (s:List UInt8):(XOp.len t).run P [.str s]=some (.int .i64 (s.length:Int)):=by
 show bQ_ P h0 t (.str s)=_
 grind [bQ_,cB_,cr_]
theorem tA_ (ht:P.underlying t=some .string) (s:List UInt8) (k:IntKind) (n:Nat) (h:n<s.length):(XOp.idx t).run P [.str s,.int k (n:Int)]=some (.int .u8 (s[n].toNat:Int)):=by
 grind [dF_,lb_,mkB,cB_,XOp.run]
end
theorem vI_ {x:Int} (h1: -9223372036854775808<=x) (h2:x<=9223372036854775807):IntKind.i64.wrap x=x:=by simp [IntKind.wrap,IntKind.bits,IntKind.signed];omega
variable [Gl]
theorem vc_ {P:Program} (hm:P.follows .mixedOrders=true) (ho:kC_ P) {f:FuncId} {ft:FT} {vs:List AV} {R:Nat->List AV->Prop} {c:VC} {n:Nat} {t:VT} (hlen:vs.length=ft.ent.nv) (hk:∀Y,Fresh Y 64->KnownF P c.fc (Y.puts 64 vs))
  (ht:u3_ P n c f ft=t) (h:∀Y,Fresh Y 64->Gl.gt Y.v->VOK P (QF R) [] (Y.puts 64 vs) t):CF P f ft vs R:=
 ⟨hlen,λY hf B pr E w us hy hg hr hcon=>by obtain ⟨p1,_,_,p4⟩:=hf.puts vs;rw [hlen]at p1;have hgt:Gl.gt Y.v:=Gl.gtm _ _ (λi hi=>by rw [hy.v];grind) hg.2;exact s6_ (c:=c) (fuel:=n) hm (cW_ hm ho n) ⟨p1,hk Y hf⟩ (by grind) B pr E w us hy hg hr hcon⟩
end Go.Sx
namespace Go.Sx
section
variable [Gl] {P:Program} {Q:AV->Prop} {L:List (Nat->List AV->Prop)} {Y:Sy}
theorem vr_ {op:XOp} {args:List AV} {n:Nat} {t:VT} {r:AV} (h1:op.run P (ab_ Y.v args)=some r) (h2:okC r=true) (h3:VOK P Q L (Y.put n r) t):VOK P Q L Y (.lt op args n none t):=⟨r,h1,h2,h3⟩
theorem va_ {op:XOp} {args:List AV} {n k:Nat} {t:VT} {cs:List AV} (h1:op.run P (ab_ Y.v args)=some (.agg cs)) (hl:cs.length=k) (h2:okL cs=true) (h3:VOK P Q L (Y.puts n cs) t):VOK P Q L Y (.lt op args n (some k) t):=⟨cs,h1,hl,h2,h3⟩
theorem u9_ {i:Nat} {a b:VT} {t:Bool} (h:Y.v i=some (.bool t)) (h1:t=true->VOK P Q L Y a) (h2:t=false->VOK P Q L Y b):VOK P Q L Y (.ite i a b):=⟨t,h,h1,h2⟩
theorem uz_ {f:FuncId} {args:List AV} {n:Nat} {sh:List (Option Nat)} {t:VT} {v:AV} {vs:List AV} (h1:ju_ P f (ab_ Y.v args) v) (h2:hq_ sh v=some vs) (h3:okL vs=true) (h4:VOK P Q L (Y.puts n vs) t):VOK P Q L Y (.call f args n sh t):=
 ⟨v,vs,h1,h2,h3,h4⟩
theorem u8_ {k:Chk} {t:VT} (h:k.ok Y) (h1:VOK P Q L Y t):VOK P Q L Y (.chk k t):=⟨h,h1⟩
theorem uq_ {f:FuncId} {ft:FT} {hv:List AV} {n:Nat} {bs:VTs} {R:Nat->List AV->Prop} (h1:CF P f ft (ab_ Y.v hv) R) (h2:okL (ab_ Y.v hv)=true) (h3:sc_ P Q R L (Y.puts n (ab_ Y.v hv)) (Nat.add n ft.ent.nv) 0 bs):VOK P Q L Y (.callF f ft hv n bs):=⟨R,h1,h2,h3⟩
theorem VOK_fin {R:Nat->List AV->Prop} {j:Nat} {hv:List AV} (h1:okL (ab_ Y.v hv)=true) (h:R j (ab_ Y.v hv)):VOK P (QF R) L Y (.done (.tup (.int .i64 (.ofNat j)::hv))):=⟨j,_,rfl,h1,h⟩
theorem uA_ {v:AV} (h:Q (den Y.v v)):VOK P Q L Y (.done v):=h
theorem up_ {lvl j:Nat} {hv:List AV} {R:Nat->List AV->Prop} (h1:L[lvl]? =some R) (h2:R j (ab_ Y.v hv)):VOK P Q L Y (.again lvl j hv):=⟨R,h1,h2⟩
open Classical in
theorem uB_ {ι:Type} (st:ι->List AV) (p:ι->Prop) (μ:ι->Nat) (i0:ι) (h0:p i0) {n nv:Nat} {hv:List AV} {t:VT} (he:ab_ Y.v hv=st i0) (hok:∀i,p i->okL (st i)=true)
  (hμ:∀i j,p i->p j->st i=st j->μ i=μ j) (hb:∀i,p i->VOK P Q (L++[λ_ vs=>∃i',p i'/\vs=st i'/\μ i'<μ i]) (Y.puts n (st i)) t):VOK P Q L Y (.loop n 0 hv (.cons nv t .nil)):=by
 let m:List AV->Nat:=λvs=>if h:∃i,p i/\vs=st i then μ (Classical.choose h)else 0
 have hm:∀i,p i->m (st i)=μ i:=λi hi=>by
  have h:∃j,p j/\st i=st j:=⟨i,hi,rfl⟩
  grind
 refine ⟨λ_ vs=>∃i,p i/\vs=st i,λ_ vs=>m vs,λj vs ⟨i,h1,h2⟩=>by grind,⟨i0,h0,he⟩,λvs hvs hI=>?_,trivial⟩;obtain ⟨i,h1,h2⟩:=hI;subst h2;have e:(λ(_:Nat) (vs':List AV)=>(∃i',p i'/\vs'=st i')/\m vs'<m (st i))=λ_ vs'=>∃i',p i'/\vs'=st i'/\μ i'<μ i:=by
  funext _ vs'
  refine propext ⟨λh=>?_,λh=>?_⟩
  .grind
  .obtain ⟨i',g1,g2,g3⟩:=h;subst g2
   grind
 grind
end
theorem g5_:∀(n:Nat) (sh:List (Option Nat)),ad_ (bZ_ n sh)=true
 |_,[]=>rfl
 |n,none::s=>by simp only [bZ_,ad_,ae_];exact g5_ _ s
 |n,some m::s=>by simp only [bZ_,ad_,ae_,hB_];exact g5_ _ s
theorem gK_:∀{sh:List (Option Nat)} {l vs:List AV},flat sh l=some vs->okL vs=true->mD_ l=true
 |[],[],vs,h,_=>rfl
 |none::s,a::r,vs,h,hok=>by unfold flat at h;split at h;rename_i l' hl;cases h;rw [aY_]at hok;obtain ⟨k1,k2⟩:=aa_ hok;simp only [mD_,sH_ k1,gK_ hl k2];cases h
 |some m::s,a::r,vs,h,hok=>by have ha:∃cs,a=.agg cs:=(by cases a<;>first|exact ⟨_,rfl⟩|(cases h));obtain ⟨cs,rfl⟩:=ha;simp only [flat]at h;split at h;split at h;rename_i l' hl;cases h;obtain ⟨k1,k2⟩:=fI_ hok;simp only [mD_,okI,k1,gK_ hl k2];cases h;cases h
 |[],_::_,vs,h,_=>by cases h
 |none::_,[],vs,h,_=>by cases h
 |some _::_,[],vs,h,_=>by cases h
theorem fA_ {s:Nat->Option AV}:∀(sh:List (Option Nat)) (n:Nat) (l vs:List AV),flat sh l=some vs->(∀i a,vs[i]? =some a->s (n+i)=some a)->ab_ s (bZ_ n sh)=l
 |[],n,[],vs,h,_=>rfl
 |none::sh,n,a::r,vs,h,hs=>by
  unfold flat at h;split at h
  .rename_i l' hl;cases h;have h0:s n=some a:=(by simpa using hs 0 a rfl);simp only [bZ_,ab_,den,h0];rw [fA_ sh (n+1) r l' hl λi b hb=>by
    have:=hs (i+1) b (by grind)
    grind]
  cases h
 |some m::sh,n,a::r,vs,h,hs=>by
  have ha:∃cs,a=.agg cs:=(by cases a<;>first|exact ⟨_,rfl⟩|(cases h));obtain ⟨cs,rfl⟩:=ha;simp only [flat]at h;split at h
  .rename_i hd;have hd:cs.length=m:=of_decide_eq_true hd;subst hd;split at h
   .rename_i l' hl;cases h;show AV.agg (ab_ s (aj_ n cs.length))::ab_ s (bZ_ (n+cs.length) sh)=_;rw [fA_ sh (n+cs.length) r l' hl λi b hb=>by
     have:=hs (cs.length+i) b (by grind)
     grind]
    rw [den_symsL n cs λi b hb=>hs i b (by
     grind)]
   cases h
  cases h
 |[],_,_::_,vs,h,_=>by cases h
 |none::_,_,[],vs,h,_=>by cases h
 |some _::_,_,[],vs,h,_=>by cases h
where
 den_symsL {s:Nat->Option AV}:∀(n:Nat) (cs:List AV),(∀i a,cs[i]? =some a->s (n+i)=some a)->ab_ s (aj_ n cs.length)=cs
 |n,[],_=>rfl
 |n,a::r,h=>by
  have h0:s n=some a:=(by simpa using h 0 a rfl);simp only [List.length_cons,aj_,ab_,den,h0];rw [den_symsL (n+1) r λi b hb=>by
   have:=h (i+1) b (by grind)
   grind]
theorem t3_ [Gl] {P:Program} (hm:P.follows .mixedOrders=true) (ho:kC_ P) {f:FuncId} {args ls:List AV} {sh:List (Option Nat)} {v:AV} {c:VC} {n m:Nat} {t:VT} (hfl:flat sh args=some ls) (hls:okL ls=true) (hv:aX_ v=true)
  (hk:∀Y,Fresh Y 64->KnownF P c.fc (Y.puts 64 ls)) (hm':64+do_ sh=m) (ht:vFn P n c f (bZ_ 64 sh) m=t) (h:∀Y,Fresh Y 64->Gl.gt Y.v->VOK P (· =v) [] (Y.puts 64 ls) t):ju_ P f args v:=
 pure_sym (args':=bZ_ 64 sh) (gK_ hfl hls) hv (g5_ _ _) hls (λY hf=>fA_ sh 64 args ls hfl λi a ha=>bB_ ls hf i a ha) λY hf hg=>
  (r2_ (c:=c) (n:=m) hm (cW_ hm ho n) ⟨by have:=(hf.puts ls).1;grind [f8_],hk Y hf⟩ (by grind)).low
theorem uU_ [Gl] {P:Program} (hm:P.follows .mixedOrders=true) (ho:kC_ P) {f:FuncId} {args args' ls:List AV} {v:AV} {c:VC} {n m:Nat} {t:VT} (hok:mD_ args=true) (hso:ad_ args'=true) (hls:okL ls=true) (hv:aX_ v=true)
  (hden:∀Y,Fresh Y 64->ab_ (Y.puts 64 ls).v args'=args) (hk:∀Y,Fresh Y 64->KnownF P c.fc (Y.puts 64 ls)) (hm':64+ls.length=m) (ht:vFn P n c f args' m=t) (h:∀Y,Fresh Y 64->Gl.gt Y.v->VOK P (· =v) [] (Y.puts 64 ls) t):ju_ P f args v:=
 pure_sym (args':=args') hok hv hso hls hden λY hf hg=>
  (r2_ (c:=c) (n:=m) hm (cW_ hm ho n) ⟨by have:=(hf.puts ls).1;grind,hk Y hf⟩ (by grind)).low
theorem vy_ [Gl] {P:Program} (Y:Sy):KnownF P ⟨[],[]⟩ Y:=⟨λf h=>(List.not_mem_nil h).elim,λf h=>(List.not_mem_nil h).elim⟩
def bq_ {α:Type} (enc:α->List AV):List α->List AV
 |[]=>[]
 |a::r=>enc a++bq_ enc r
def ct_ {α:Type} (enc:α->List AV) (w:Nat) (l:List α):AV:=match l with
 |[]=>.nsl
 |a::r=>.vsl (r.length+1) w (bq_ enc (a::r))
section
variable {α:Type} {enc:α->List AV} {w:Nat}
theorem dh_:∀a b:List α,bq_ enc (a++b)=bq_ enc a++bq_ enc b
 |[],b=>rfl
 |x::r,b=>by simp only [List.cons_append,bq_,dh_ r b,List.append_assoc]
theorem bC_ (hw:∀a,(enc a).length=w):∀l:List α,(bq_ enc l).length=l.length*w
 |[]=>by simp [bq_]
 |a::r=>by simp only [bq_,List.length_append,hw,bC_ hw r,List.length_cons,Nat.add_mul];omega
theorem gC_ (hw:∀a,(enc a).length=w):∀(l:List α) (i:Nat),(bq_ enc l).drop (i*w)=bq_ enc (l.drop i)
 |l,0=>by simp
 |[],i+1=>by simp [bq_]
 |a::r,i+1=>by simp only [bq_,List.drop_succ_cons];rw [←gC_ hw r i,Nat.add_mul,Nat.one_mul,Nat.add_comm,←List.drop_drop,List.drop_left' (hw a)]
theorem kN_ (h:∀a,okL (enc a)=true):∀l:List α,okL (bq_ enc l)=true
 |[]=>rfl
 |a::r=>okL_join (h a) (kN_ h r)
where
 okL_join:∀{a b:List AV},okL a=true->okL b=true->okL (a++b)=true
 |[],b,_,h=>h
 |x::r,b,h1,h2=>by rw [aY_]at h1;obtain ⟨k1,k2⟩:=aa_ h1;rw [List.cons_append,aY_,k1,okL_join k2 h2];rfl
theorem ub_ (h:∀a,okL (enc a)=true) (l:List α):okC (ct_ enc w l)=true:=by
 cases l with
 |nil=>rfl
 |cons a r=>exact kN_ h (a::r)
mutual
theorem p1_:∀{a:AV},okC a=true->aX_ a=true
 | .opq,h=>by simp [okC]at h
 | .bool _,_=>rfl
 | .int _ _,_=>rfl
 | .flt _ _,_=>rfl
 | .nan _,_=>rfl
 | .str _,_=>rfl
 | .nptr,_=>rfl
 | .ptr _ _,h=>by simp [okC]at h
 | .vptr cs,h=>by simp only [okC]at h;simp only [aX_];exact b1_ h
 | .nsl,_=>rfl
 | .sl ..,h=>by simp [okC]at h
 | .vsl _ _ cs,h=>by simp only [okC]at h;simp only [aX_];exact b1_ h
 | .nmap,_=>rfl
 | .map _,h=>by simp [okC]at h
 | .nfn,_=>rfl
 | .fn _ cs,h=>by simp only [okC]at h;simp only [aX_];exact b1_ h
 | .nif,_=>rfl
 | .iface _ a,h=>by simp only [okC]at h;simp only [aX_];exact kk_ h
 | .agg _,h=>by simp [okC]at h
 | .tup _,h=>by simp [okC]at h
 | .sym _,h=>by simp [okC]at h
 | .slx ..,h=>by simp [okC]at h
 | .ptx ..,h=>by simp [okC]at h
theorem kk_:∀{a:AV},okI a=true->aX_ a=true
 | .opq,h=>by simp [okI]at h
 | .bool _,_=>rfl
 | .int _ _,_=>rfl
 | .flt _ _,_=>rfl
 | .nan _,_=>rfl
 | .str _,_=>rfl
 | .nptr,_=>rfl
 | .ptr _ _,h=>by simp [okI]at h
 | .vptr cs,h=>by simp only [okI]at h;simp only [aX_];exact b1_ h
 | .nsl,_=>rfl
 | .sl ..,h=>by simp [okI]at h
 | .vsl _ _ cs,h=>by simp only [okI]at h;simp only [aX_];exact b1_ h
 | .nmap,_=>rfl
 | .map _,h=>by simp [okI]at h
 | .nfn,_=>rfl
 | .fn _ cs,h=>by simp only [okI]at h;simp only [aX_];exact b1_ h
 | .nif,_=>rfl
 | .iface _ a,h=>by simp only [okI]at h;simp only [aX_];exact kk_ h
 | .agg cs,h=>by simp only [okI]at h;simp only [aX_];exact b1_ h
 | .tup _,h=>by simp [okI]at h
 | .sym _,h=>by simp [okI]at h
 | .slx ..,h=>by simp [okI]at h
 | .ptx ..,h=>by simp [okI]at h
theorem b1_:∀{l:List AV},okL l=true->cC_ l=true
 |[],_=>rfl
 |a::r,h=>by rw [aY_]at h;obtain ⟨h1,h2⟩:=aa_ h;simp only [cC_,p1_ h1,b1_ h2]
end
variable {P:Program} {t e:TypeId} {ti:TypeInfo}
theorem t8_ (ht:P.underlying t=some (.slice e)) (l:List α):(XOp.len t).run P [ct_ enc w l]=some (.int .i64 (l.length:Int)):=by
 cases l with
 |nil=>show bQ_ P h0 t .nsl=_;grind [bQ_]
 |cons a r=>show bQ_ P h0 t (.vsl (r.length+1) w (bq_ enc (a::r)))=_;grind [bQ_]
theorem ln_ (ht:P.underlying t=some (.slice e)) (hi:P.info? e=some ti) (hs:ti.size=w) (hw:∀a,(enc a).length=w) {l:List α} {i:Nat} (h:i<l.length) (k:IntKind):
  (XOp.iaddr t).run P [ct_ enc w l,.int k (i:Int)]=some (.vptr (bq_ enc (l.drop i))):=by
 cases l with
 |nil=>simp at h
 |cons a r=>
  show aR_ P t (.vsl (r.length+1) w _) (.int k (.ofNat i))=_;unfold aR_;have hb:Nat.blt i (r.length+1)=true:=(by simp_all);simp only [ht,hi,idx,hb,hs,az_]
  grind [gC_]
theorem dp_:∀(a b:List AV),aZ_ a.length (a++b)=some a
 |[],b=>rfl
 |x::r,b=>by simp only [List.length_cons,List.cons_append,aZ_,dp_ r b]
theorem sS_ {d:TypeDesc} (ht:P.underlying t=some d) (ha:lE_ d=true) (hi:P.info? t=some ti) (hs:ti.size=w) (hw:∀a,(enc a).length=w) {l:List α} {i:Nat} (h:i<l.length):
  (XOp.load t).run P [.vptr (bq_ enc (l.drop i))]=some (.agg (enc l[i])):=by
 show bg_ P h0 t (.vptr _)=_
 grind [bg_,aT_,List.drop_eq_getElem_cons,bq_,dp_]
theorem sT_ {d:TypeDesc} (ht:P.underlying t=some d) (ha:lE_ d=false) (x:AV) (r:List AV):(XOp.load t).run P [.vptr (x::r)]=some x:=by
 show bg_ P h0 t (.vptr _)=_
 grind [bg_,aT_,aZ_]
theorem t6_ {sz bytes:Nat} (hw:∀a,(enc a).length=sz) (hsz:0<sz) (hb:0<bytes) (l:List α) (a:α) (hl:(l.length+1)*bytes<=1073741824):(XOp.app sz bytes).run P [ct_ enc sz l,.agg (enc a)]=some (ct_ enc sz (l++[a])):=by
 have h1:Nat.div (aJ_ (enc a)) sz=1:=by rw [ah_,hw];exact Nat.div_self hsz
 have hl1:l.length+1<=1073741824:=Nat.le_trans (Nat.le_mul_of_pos_right _ hb) hl;show (match bl_ sz (.agg (enc a))with|some (n,l')=>gu_ sz bytes (ct_ enc sz l) n l'|none=>none)=_;simp only [bl_,h1];unfold gu_;have hd:decide ((enc a).length=1*sz)=true:=by grind
 simp only [hd];cases l with
 |nil=>
  have c1:(Nat.ble (Nat.mul 1 bytes) 1073741824&&Nat.ble 1 1073741824&&Nat.blt 0 bytes)=true:=by simp_all
  grind [ct_,bq_]
 |cons b r=>
  have c1:(Nat.ble (Nat.mul (Nat.add (r.length+1) 1) bytes) 1073741824&&Nat.ble (Nat.add (r.length+1) 1) 1073741824&&Nat.blt 0 bytes)=true:=(by simp_all);have hlen:(bq_ enc (b::r)).length=(r.length+1)*sz:=bC_ hw (b::r);have e3:bq_ enc (b::(r++[a]))=bq_ enc (b::r)++enc a:=by
   grind [dh_,bq_]
  have e4:(r++[a]).length+1=Nat.add (r.length+1) 1:=(by simp);simp only [ct_,hlen,true_and,decide_true,c1,List.cons_append,e3,e4]
end
def dq_ {α:Type} (enc:α->List AV) (w:Nat) (l:List α):AV:=.vsl l.length w (bq_ enc l)
def SlV {α:Type} (enc:α->List AV) (w:Nat) (l:List α) (a:AV):Prop:=a=dq_ enc w l\/(l=[]/\a=.nsl)
section
variable {α:Type} {enc:α->List AV} {w:Nat}
theorem SlV.of (l:List α):SlV enc w l (ct_ enc w l):=by
 cases l with
 |nil=>exact .inr ⟨rfl,rfl⟩
 |cons a r=>exact .inl rfl
theorem SlV.v (l:List α):SlV enc w l (dq_ enc w l):=.inl rfl
theorem SlV.eq {l:List α} {a:AV} (h:SlV enc w l a) (hl:l≠[]):a=ct_ enc w l:=by
 rcases h with h|⟨h,_⟩
 .rw [h];cases l with
  |nil=>grind
  |cons a r=>rfl
 grind
theorem r9_ (h:∀a,okL (enc a)=true) (l:List α):okC (dq_ enc w l)=true:=by
 grind [kN_,okC,dq_]
theorem SlV.ok {l:List α} {a:AV} (h:SlV enc w l a) (he:∀a,okL (enc a)=true):okC a=true:=by
 grind [r9_,Go.Sx.okC,Go.Sx.SlV]
variable {P:Program} {t e:TypeId} {ti:TypeInfo}
theorem SlV.len {l:List α} {a:AV} (h:SlV enc w l a) (ht:P.underlying t=some (.slice e)):(XOp.len t).run P [a]=some (.int .i64 (l.length:Int)):=by
 rcases h with h|⟨h1,h⟩
 .subst h;show bQ_ P h0 t (.vsl l.length w (bq_ enc l))=_;grind [bQ_]
 .subst h h1;show bQ_ P h0 t .nsl=_;grind [bQ_]
theorem SlV.ia {l:List α} {a:AV} (h:SlV enc w l a) (ht:P.underlying t=some (.slice e)) (hi:P.info? e=some ti) (hs:ti.size=w) (hw:∀a,(enc a).length=w) {i:Nat} (hl:i<l.length) (k:IntKind):
  (XOp.iaddr t).run P [a,.int k (i:Int)]=some (.vptr (bq_ enc (l.drop i))):=by
 rw [h.eq (λe=>by grind)]
 grind [ln_]
theorem pa_ (ht:P.underlying t=some (.slice e)) (hi:P.info? e=some ti) (hs:ti.size=w) (hw:∀a,(enc a).length=w) {l:List α} {a:AV} (h:SlV enc w l a) {lo hi':Option AV} {i j:Nat} (hlo:bnd lo 0=some i) (hhi:bnd hi' l.length=some j) (hij:i<=j) (hj:j<=l.length):
  ∃r,dt_ a (aN_ P h0 t a lo hi')=some r/\SlV enc w ((l.take j).drop i) r:=by
 rcases h with h|⟨h1,h⟩
 .subst h;refine ⟨dq_ enc w ((l.take j).drop i),?_,.inl rfl⟩;show aN_ P h0 t (.vsl l.length w (bq_ enc l)) lo hi'=_;unfold aN_;have hb:(Nat.ble i j&&(Nat.ble j l.length&&Nat.beq w ti.size))=true:=by simp_all
  simp only [hlo,ht,hi,hhi,hb,az_];have hlen:((l.take j).drop i).length=j-i:=(by grind);have e1:(bq_ enc l).drop (Nat.mul i w)=bq_ enc ((l.take j).drop i)++bq_ enc (l.drop j):=by
   grind [gC_,dh_,List.take_append_drop]
  have e2:aZ_ (Nat.mul (Nat.sub j i) w) (bq_ enc ((l.take j).drop i)++bq_ enc (l.drop j))=some (bq_ enc ((l.take j).drop i)):=by
   grind [dp_,bC_]
  rw [e1,e2];show some (AV.vsl (Nat.sub j i) w _)=some (AV.vsl ((l.take j).drop i).length w _)
  grind
 .subst h h1;have hj0:j=0:=(by grind);have hi0:i=0:=(by omega);subst hj0 hi0;refine ⟨.nsl,?_,.inr ⟨rfl,rfl⟩⟩;show aN_ P h0 t .nsl lo hi'=_
  grind [aN_]
theorem SlV.slc11 (ht:P.underlying t=some (.slice e)) (hi:P.info? e=some ti) (hs:ti.size=w) (hw:∀a,(enc a).length=w) {l:List α} {a:AV} (h:SlV enc w l a) {k k':IntKind} {i j:Nat} (hij:i<=j) (hj:j<=l.length):
 ∃r,(XOp.slc t true true).run P [a,.int k (i:Int),.int k' (j:Int)]=some r/\SlV enc w ((l.take j).drop i) r:=pa_ ht hi hs hw h (lo:=some (.int k i)) (hi':=some (.int k' j)) rfl rfl hij hj
theorem SlV.slc10 (ht:P.underlying t=some (.slice e)) (hi:P.info? e=some ti) (hs:ti.size=w) (hw:∀a,(enc a).length=w) {l:List α} {a:AV} (h:SlV enc w l a) {k:IntKind} {i:Nat} (hil:i<=l.length):
  ∃r,(XOp.slc t true false).run P [a,.int k (i:Int)]=some r/\SlV enc w (l.drop i) r:=by
 have:=pa_ ht hi hs hw h (lo:=some (.int k i)) (hi':=none) rfl rfl hil (Nat.le_refl _)
 grind [Go.Sx.XOp.run]
theorem SlV.arg {l:List α} {a:AV} (h:SlV enc w l a) (hw:∀a,(enc a).length=w):bl_ w a=some (l.length,bq_ enc l):=by
 rcases h with h|⟨h1,h⟩
 .subst h;have:al_ ⟨hnil,0,0⟩ (dq_ enc w l) l.length w=some (bq_ enc l):=by
   show aZ_ (Nat.mul l.length w) (bq_ enc l)=_;have h:=dp_ (bq_ enc l) []
   grind [bC_]
  show (match al_ ⟨hnil,0,0⟩ (dq_ enc w l) l.length w with|some q=>some (l.length,q)|none=>none)=_;rw [this]
 subst h h1;rfl
theorem SlV.app {sz bytes:Nat} {enc:α->List AV} (hw:∀a,(enc a).length=sz) (hsz:0<sz) (hb:0<bytes) {l l':List α} {a a':AV} (h:SlV enc sz l a) (h':SlV enc sz l' a') (hl:(l.length+l'.length)*bytes<=1073741824):
  ∃r,(XOp.app sz bytes).run P [a,a']=some r/\SlV enc sz (l++l') r:=by
 have harg:=h'.arg hw;have hl1:l.length+l'.length<=1073741824:=Nat.le_trans (Nat.le_mul_of_pos_right _ hb) hl;have e0:(XOp.app sz bytes).run P [a,a']=gu_ sz bytes a l'.length (bq_ enc l'):=by
  grind [Go.Sx.XOp.run]
 rw [e0];unfold gu_;have hd:decide ((bq_ enc l').length=l'.length*sz)=true:=decide_eq_true (bC_ hw l');simp only [hd];cases l' with
 |nil=>rw [List.append_nil];rcases h with h|⟨h1,h⟩;subst h;exact ⟨dq_ enc sz l,by simp_all [dq_,bC_],.inl rfl⟩;subst h;exact ⟨.nsl,rfl,.inr ⟨h1,rfl⟩⟩
 |cons x r=>
  have c0:∀m:Nat,m=l.length+(x::r).length->(Nat.ble (Nat.mul m bytes) 1073741824&&Nat.ble m 1073741824&&Nat.blt 0 bytes)=true:=λm hm=>(by simp_all);rcases h with h|⟨h1,h⟩;subst h;refine ⟨dq_ enc sz (l++x::r),?_,.inl rfl⟩;have c1:=c0 (Nat.add l.length (r.length+1)) rfl;have e2:Nat.add l.length (r.length+1)=l.length+(r.length+1):=rfl;rw [e2]at c1;simp only [dq_,bC_ hw,and_self,decide_true,List.length_cons,c1,List.length_append,dh_,e2]
  .subst h h1;refine ⟨dq_ enc sz (x::r),?_,.inl rfl⟩
   grind [dq_]
theorem SlV.app1 {sz bytes:Nat} {enc:α->List AV} (hw:∀a,(enc a).length=sz) (hsz:0<sz) (hb:0<bytes) {l:List α} {a:AV} (h:SlV enc sz l a) (x:α) (hl:(l.length+1)*bytes<=1073741824):
  ∃r,(XOp.app sz bytes).run P [a,.agg (enc x)]=some r/\SlV enc sz (l++[x]) r:=by
 obtain ⟨r,h1,h2⟩:=h.app (P:=P) (l':=[x]) hw hsz hb (SlV.v [x]) hl;refine ⟨r,?_,h2⟩;rw [←h1];show (match bl_ sz (.agg (enc x))with|some (n,l')=>gu_ sz bytes a n l'|none=>none)=(match bl_ sz (dq_ enc sz [x])with|some (n,l')=>gu_ sz bytes a n l'|none=>none);rw [(SlV.v [x]).arg hw];have e1:Nat.div (aJ_ (enc x)) sz=1:=by rw [ah_,hw];exact Nat.div_self hsz
 grind [bl_,bq_]
end
end Go.Sx
namespace Go.Sx
def pV_ (n:Nat):Bool:=decide (9218868437227405312<n%9223372036854775808)
theorem nV_ (n:Nat):(pV_ n=true/\∃s q,Ieee.double.read n=.nan s q)\/(pV_ n=false/\n%9223372036854775808=0/\∃s,Ieee.double.read n=.number s 0 Ieee.double.leastPlace)\/
  (pV_ n=false/\n%9223372036854775808≠0/\((∃s m i,0<m/\Ieee.double.leastPlace<=i/\Ieee.double.read n=.number s m i)\/∃s,Ieee.double.read n=.infinity s)):=by
 have e1:Ieee.double.signWeight=9223372036854775808:=rfl;have e2:Ieee.double.infRung=9218868437227405312:=rfl;have e3:Ieee.double.binade=4503599627370496:=rfl;unfold Ieee.Format.read pV_;simp only [e1,e2,e3];generalize n%9223372036854775808=r;by_cases h1:r<4503599627370496
 .rw [if_pos h1];by_cases h0:r=0;simp_all
  grind
 .rw [if_neg h1];by_cases h2:r<9218868437227405312
  .rw [if_pos h2]
   grind
  .rw [if_neg h2];by_cases h3:r=9218868437227405312;simp_all
   .rw [if_neg h3]
    grind
theorem nR_ (n:Nat):(Ieee.double.order n n==some .eq)= !pV_ n:=by
 unfold Ieee.Format.order;rcases nV_ n with ⟨h,s,q,e⟩|⟨h,_,s,e⟩|⟨h,_,⟨s,m,i,hm,hi,e⟩|⟨s,e⟩⟩
 .grind [Ieee.Datum.order]
 .grind [Ieee.Datum.order]
 .simp only [Ieee.Datum.order]
  grind
 grind [Ieee.Datum.order]
theorem uv_ (P:Program) (t:TypeId) (cx cy:Bool) (n:Nat):(XOp.bin .neq t cx cy).run P [.flt .f64 n,.flt .f64 n]=some (.bool (pV_ n)):=by show some (AV.bool (!(Ieee.double.order n n==some .eq)))=_;rw [nR_,Bool.not_not]
section
variable {P:Program} {t:TypeId}
theorem oq_ (a b:List UInt8):eqB a b=decide (a=b):=by
 by_cases h:a=b;simp_all [d0_]
 simp_all [d0_]
theorem vl_ (cx cy:Bool) (a b:List UInt8):(XOp.bin .eql t cx cy).run P [.str a,.str b]=some (.bool (decide (a=b))):=by show some (AV.bool (eqB a b))=_;rw [oq_]
theorem vm_ (cx cy:Bool) (a b:List UInt8):(XOp.bin .neq t cx cy).run P [.str a,.str b]=some (.bool (!decide (a=b))):=by show some (AV.bool (not (eqB a b)))=_;rw [oq_]
theorem tz_ {s d:TypeId} {ds:TypeDesc} {k j:IntKind} (hs:P.underlying s=some ds) (hd:P.underlying d=some (.int k)) (n:Int):(XOp.conv s d).run P [.int j n]=some (.int k (k.wrap n)):=by
 show cZ_ P h0 s d (.int j n)=_
 grind [cZ_,f5_,cB_,de_]
end
section
variable [Gl]
def uh_ (P:Program) (fuel:Nat) (c:VC) (f:FuncId) (ft:FT) (args:List AV) (H:AHeap) (n:Nat):VT:=match P.funcs[f]? with
 |some fn=>match fn.body with
  |some cd=>match Nat.ble (aJ_ args) fn.ntmps&&(Nat.ble fn.ntmps 512&&Nat.beq c.k ft.k)with
   |true=>ch_ P fn.ntmps fuel (inN P fuel 12) c 0 cd ⟨aV_ args 0 tnil,H,n,0,[]⟩ (hb_ P fuel (inN P fuel 12) c fn.results.toList ft none) (tE_ P fuel (inN P fuel 12) c fn.results.toList ft)
   |false=>.bad
  |none=>.bad
 |none=>.bad
end
section
variable [Gl] {P:Program} {c:VC} {fuel:Nat}
theorem FEndW.callO {ft:FT} {R:Nat->List AV->Prop} {Y0 Y:Sy} {f:FuncId} {args:List AV} {H:AHeap} (h:SemCallF P ft.k Y f args H (FEndW P ft R Y0)):SemCallF P ft.k Y f args H (pn_ ft (Nat.add 64 ft.ent.nv) Y0 R):=λB pr E w vs hy hg hr hcon=>
 Calls.mono (h B pr E w vs hy hg hr hcon) λe w' he=>by
  obtain ⟨Y',r,⟨b,a,H',j,ws,tp,rfl,h1,h2,h3,h4,hw⟩,E',hle,hy',hres⟩:=he;have hend:∃u,e=(match b with
    |true=>.panicked [{ v:=u,recovered:=false }]
    |false=>.returned u)/\Con E' a u/\Rel B pr E' H' w':=by
   grind
  obtain ⟨u,he,hcu,hr'⟩:=hend;have hgl:GlOk E':=hg.leF hle
  let ac:Act:={ tmps:= #[u],defers:=[] }
  have st:St P B pr 1 E' (dx_ topq 0 a) H' [] ac w':=⟨⟨rfl,by omega,λt ht=>by
   by_cases e:0=t;subst e;exact hcu
   grind [ao_,b3_,Con],hgl⟩,hr',rfl⟩
  obtain ⟨E2,hle2,hy2,st2⟩:=hw 1 B pr E' ac w' hy' st;have hcu2:=st2.t.con 0 (by omega);refine ⟨_,_,⟨j,ws,b,tp,h1,h2,h3,h4,rfl,rfl⟩,E2,hle.trans hle2,hy2,?_⟩;cases b with
  |true=>exact ⟨u,he,hcu2,st2.r⟩
  |false=>exact ⟨u,he,hcu2,st2.r⟩
theorem s8_ (hm:P.follows .mixedOrders=true) (hc:as_ P (a6_ P fuel)) {f:FuncId} {ft:FT} {R:Nat->List AV->Prop} {Y0 Y:Sy} {args:List AV} {H:AHeap} {n:Nat} (hf0:Fresh Y0 (Nat.add 64 ft.ent.nv)) (hf:Good P c n Y) (hx0:Ext (Nat.add 64 ft.ent.nv) Y0 Y) (hn0:Nat.add 64 ft.ent.nv<=n) (h:VOK P (QF R) [] Y (uh_ P fuel c f ft args H n)):
  SemCallF P ft.k Y f args H (pn_ ft (Nat.add 64 ft.ent.nv) Y0 R):=by
 unfold uh_ at h;split at h
 .rename_i fn hfn;split at h
  .rename_i cd hb;split at h
   .rename_i hle;obtain ⟨h1,hle⟩:=aa_ hle;obtain ⟨h2,h3⟩:=aa_ hle;have h1:args.length<=fn.ntmps:=(by grind [ah_,Nat.ble_eq]);have h2:fn.ntmps<=512:=(by simp_all);have h3:=Nat.eq_of_beq_eq_true h3;have fin:∀u L Y' S,L.length=S.lv->Good P c S.n Y'->Nat.add 64 ft.ent.nv<=S.n->Ext (Nat.add 64 ft.ent.nv) Y0 Y'->VOK P (QF R) L Y' (hb_ P fuel (inN P fuel 12) c fn.results.toList ft u S)->dz_ P c.k fn (FEndW P ft R Y0) Y' S.T S.H S.D u:=by
     intro u L Y' S hL hg hn hx h;refine fm_ hm hc hL hg h λr n' lv' L' Y2 _ _ _ hx2 _ h=>?_;have hx:=hx.trans hx2 hn;cases r with
     |ret a H=>obtain ⟨j,ws,tp,q1,q2,q3,q4,q5⟩:=fl_ (a:=a) rfl rfl hf0 hx ft.exs 0 (λj q hj=>by grind) h;exact ⟨false,a,H,j,ws,tp,rfl,q1,q2,q3,q4,q5⟩
     |pan a H=>obtain ⟨j,ws,tp,q1,q2,q3,q4,q5⟩:=fl_ (a:=a) rfl rfl hf0 hx ft.exs 0 (λj q hj=>by grind) h;exact ⟨true,a,H,j,ws,tp,rfl,q1,q2,q3,q4,q5⟩
    refine FEndW.callO ?_;rw [←h3];refine lA_ hm hfn hb ⟨h1,h2,aA_ cd (λY' T' H' D' hk=>?_) (λY' r hx=>?_) _ _ _ _ (bx_ hm hc cd 0 ⟨aV_ args 0 tnil,H,n,0,[]⟩ _ _ Y [] rfl hf h)⟩;obtain ⟨n',lv,L',_,q2,q3,hx,q5,h'⟩:=hk;exact fin none L' Y' ⟨T',H',n',lv,D'⟩ q2 q5 (Nat.le_trans hn0 q3) (hx0.trans hx hn0) h'
    .cases r with
     |norm T H D=>exact hx.elim
     |pan v T H D=>obtain ⟨n',lv,L',_,q2,q3,hx,q5,h'⟩:=hx;exact fin (some v) L' Y' ⟨T,H,n',lv,D⟩ q2 q5 (Nat.le_trans hn0 q3) (hx0.trans hx hn0) h'
     |exit id T H D=>obtain ⟨n',lv,L',_,_,_,_,_,h'⟩:=hx;exact h'.elim
     |ret T H D=>obtain ⟨n',lv,L',_,q2,q3,hx,q5,h'⟩:=hx;exact fin none L' Y' ⟨T,H,n',lv,D⟩ q2 q5 (Nat.le_trans hn0 q3) (hx0.trans hx hn0) h'
   exact h.elim
  exact h.elim
 exact h.elim
theorem vb_ (hm:P.follows .mixedOrders=true) (ho:kC_ P) {f:FuncId} {ft:FT} {vs ex args:List AV} {H:AHeap} {n1 n:Nat} {R:Nat->List AV->Prop} {t:VT} (hlen:vs.length=ft.ent.nv) (hk:∀Y,KnownF P c.fc Y) (hn:64+ft.ent.nv+ex.length=n1)
  (hopen:∀(B:World) (pr:Nat->Prop) (E:Env) (w:World) (us:List Value),(∀(i:Nat) (a:AV),vs[i]? =some a->E.sy (64+i)=some a)->(∀(i:Nat) (a:AV),ex[i]? =some a->E.sy (64+ft.ent.nv+i)=some a)->Rel B pr E (ft.ent.heap 64) w->ConL E (bo_ 64 (ci_ ft.ent.slots)) us->Rel B pr E H w/\ConL E args us)
  (ht:uh_ P n c f ft args H n1=t) (h:∀Y,Fresh Y 64->Gl.gt Y.v->VOK P (QF R) [] ((Y.puts 64 vs).puts (64+ft.ent.nv) ex) t):CF P f ft vs R:=
 ⟨hlen,λY hf B pr E w us hy hg hr hcon=>by obtain ⟨p1,p2,p3,p4⟩:=hf.puts vs;have hat:=bB_ vs hf;rw [hlen]at p1;obtain ⟨q1,q2,q3,q4⟩:=p1.puts ex;have hae:=bB_ ex p1;have hgt:Gl.gt Y.v:=Gl.gtm _ _ (λi hi=>by rw [hy.v];grind) hg.2;have hv:∀i a,E.sy i=some a->((Y.puts 64 vs).puts (64+ft.ent.nv) ex).v i=some a:=λi a ha=>(by rw [hy.v]at ha;grind);have hl:∀i l,E.syl i=some l->((Y.puts 64 vs).puts (64+ft.ent.nv) ex).l i=some l:=λi l ha=>(by rw [hy.l]at ha;grind);have hle:E.leF ft.k (E.with ((Y.puts 64 vs).puts (64+ft.ent.nv) ex)):=Env.with_leF ft.k λi hi=>(by rw [hy.v];exact q4 i hi);have hx:Ext (Nat.add 64 ft.ent.nv) (Y.puts 64 vs) ((Y.puts 64 vs).puts (64+ft.ent.nv) ex):=Ext.puts ex _ (Nat.le_refl _);have hr1:=hr.with hv hl;have hc1:=hcon.with hv hl;obtain ⟨hr2,hc2⟩:=hopen B pr (E.with ((Y.puts 64 vs).puts (64+ft.ent.nv) ex)) w us (λi a ha=>q2 _ _ (hat i a ha)) (λi a ha=>hae i a ha) hr1 hc1;have hsem:=s8_ (c:=c) (fuel:=n) (R:=R) (args:=args) (H:=H) (n:=n1) hm (cW_ hm ho n) p1 ⟨by grind,hk _⟩ hx (by grind) (by rw [ht];grind);refine Calls.mono (hsem B pr (E.with ((Y.puts 64 vs).puts (64+ft.ent.nv) ex)) w us ⟨rfl,rfl,hy.res⟩ (hg.leF hle) hr2 hc2) λe w' he=>?_;obtain ⟨Y',r,h1,E',h2,h3⟩:=he;exact ⟨Y',r,h1,E',hle.trans h2,h3⟩⟩
end
section
variable {P:Program}
theorem uZ_ {k:IntKind} {x c:Int} (hc:c≠0) (t:TypeId) (cx cy:Bool):(XOp.bin .rem t cx cy).run P [.int k x,.int k c]=some (.int k (x.tmod c)):=sR_ hc rfl t cx cy
end
def fv (o:Option Nat):AV:=mkF .f64 o
theorem vK_ (o:Option Nat):okC (fv o)=true:=by cases o<;>rfl
end Go.Sx
