/-
  Lists of elements of one width, as slices: what operations give.
-/
import Derived.Test.YtjconanknjgpnaaGreatSyQ
set_option linter.unusedVariables false
set_option linter.unusedSimpArgs false
namespace Go.Sx
def bA_ {α:Type} (enc:α->List AV):List α->List AV
 |[]=>[]
 |a::r=>enc a++bA_ enc r
def c2_ {α:Type} (enc:α->List AV) (w:Nat) (l:List α):AV:=match l with
 |[]=>.nsl
 |a::r=>.vsl (r.length+1) w (bA_ enc (a::r))
section
variable {α:Type} {enc:α->List AV} {w:Nat}
theorem eA_:∀a b:List α,bA_ enc (a++b)=bA_ enc a++bA_ enc b
 |[],b=>rfl
 |x::r,b=>by simp only [List.cons_append,bA_,eA_ r b,List.append_assoc]
theorem du_ (hw:∀a,(enc a).length=w):∀l:List α,(bA_ enc l).length=l.length*w
 |[]=>by simp [bA_]
 |a::r=>by simp only [bA_,List.length_append,hw,du_ hw r,List.length_cons,Nat.add_mul];omega
theorem gF_ (hw:∀a,(enc a).length=w):∀(l:List α) (i:Nat),(bA_ enc l).drop (i*w)=bA_ enc (l.drop i)
 |l,0=>by simp
 |[],i+1=>by simp [bA_]
 |a::r,i+1=>by
  simp only [bA_,List.drop_succ_cons]
  rw [←gF_ hw r i,Nat.add_mul,Nat.one_mul,Nat.add_comm,←List.drop_drop,List.drop_left' (hw a)]
theorem oL_ (h:∀a,okL (enc a)=true):∀l:List α,okL (bA_ enc l)=true
 |[]=>rfl
 |a::r=>okL_join (h a) (oL_ h r)
where
 okL_join:∀{a b:List AV},okL a=true->okL b=true->okL (a++b)=true
 |[],b,_,h=>h
 |x::r,b,h1,h2=>by
  rw [aY_]at h1
  obtain ⟨k1,k2⟩:=aa_ h1
  rw [List.cons_append,aY_,k1,okL_join k2 h2];rfl
mutual
theorem qh_:∀{a:AV},okC a=true->aT_ a=true
 | .opq,h=>by simp [okC]at h
 | .bool _,_=>rfl
 | .int _ _,_=>rfl
 | .flt _ _,_=>rfl
 | .nan _,_=>rfl
 | .str _,_=>rfl
 | .nptr,_=>rfl
 | .ptr _ _,h=>by simp [okC]at h
 | .vptr cs,h=>by simp only [okC]at h;simp only [aT_];exact cb_ h
 | .nsl,_=>rfl
 | .sl ..,h=>by simp [okC]at h
 | .vsl _ _ cs,h=>by simp only [okC]at h;simp only [aT_];exact cb_ h
 | .nmap,_=>rfl
 | .map _,h=>by simp [okC]at h
 | .nfn,_=>rfl
 | .fn _ cs,h=>by simp only [okC]at h;simp only [aT_];exact cb_ h
 | .nif,_=>rfl
 | .iface _ a,h=>by simp only [okC]at h;simp only [aT_];exact kx_ h
 | .agg _,h=>by simp [okC]at h
 | .tup _,h=>by simp [okC]at h
 | .sym _,h=>by simp [okC]at h
 | .slx ..,h=>by simp [okC]at h
 | .ptx ..,h=>by simp [okC]at h
theorem kx_:∀{a:AV},okI a=true->aT_ a=true
 | .opq,h=>by simp [okI]at h
 | .bool _,_=>rfl
 | .int _ _,_=>rfl
 | .flt _ _,_=>rfl
 | .nan _,_=>rfl
 | .str _,_=>rfl
 | .nptr,_=>rfl
 | .ptr _ _,h=>by simp [okI]at h
 | .vptr cs,h=>by simp only [okI]at h;simp only [aT_];exact cb_ h
 | .nsl,_=>rfl
 | .sl ..,h=>by simp [okI]at h
 | .vsl _ _ cs,h=>by simp only [okI]at h;simp only [aT_];exact cb_ h
 | .nmap,_=>rfl
 | .map _,h=>by simp [okI]at h
 | .nfn,_=>rfl
 | .fn _ cs,h=>by simp only [okI]at h;simp only [aT_];exact cb_ h
 | .nif,_=>rfl
 | .iface _ a,h=>by simp only [okI]at h;simp only [aT_];exact kx_ h
 | .agg cs,h=>by simp only [okI]at h;simp only [aT_];exact cb_ h
 | .tup _,h=>by simp [okI]at h
 | .sym _,h=>by simp [okI]at h
 | .slx ..,h=>by simp [okI]at h
 | .ptx ..,h=>by simp [okI]at h
theorem cb_:∀{l:List AV},okL l=true->cK_ l=true
 |[],_=>rfl
 |a::r,h=>by
  rw [aY_]at h
  obtain ⟨h1,h2⟩:=aa_ h
  simp only [cK_,qh_ h1,cb_ h2]
end
variable {P:Program} {t e:TypeId} {ti:TypeInfo}
theorem ue_ (ht:P.underlying t=some (.slice e)) (l:List α):(XOp.len t).run P [c2_ enc w l]=some (.int .i64 (l.length:Int)):=by
 cases l with
 |nil=>show cg_ P h0 t .nsl=_;unfold cg_;rw [ht];rfl
 |cons a r=>show cg_ P h0 t (.vsl (r.length+1) w (bA_ enc (a::r)))=_;unfold cg_;rw [ht];rfl
theorem run_iaddr_sl (ht:P.underlying t=some (.slice e)) (hi:P.info? e=some ti) (hs:ti.size=w) (hw:∀a,(enc a).length=w) {l:List α} {i:Nat} (h:i<l.length) (k:IntKind):
  (XOp.iaddr t).run P [c2_ enc w l,.int k (i:Int)]=some (.vptr (bA_ enc (l.drop i))):=by
 cases l with
 |nil=>simp at h
 |cons a r=>
  show aS_ P t (.vsl (r.length+1) w _) (.int k (.ofNat i))=_
  unfold aS_
  have hb:Nat.blt i (r.length+1)=true:=by simpa [Nat.blt_eq]using h
  simp only [ht,hi,idx,hb,hs,aq_]
  have:=gF_ hw (a::r) i
  show some (AV.vptr ((bA_ enc (a::r)).drop (i*w)))=_
  rw [this]
theorem eW_:∀(a b:List AV),a3_ a.length (a++b)=some a
 |[],b=>rfl
 |x::r,b=>by simp only [List.length_cons,List.cons_append,a3_,eW_ r b]
theorem run_load_agg {d:TypeDesc} (ht:P.underlying t=some d) (ha:lS_ d=true) (hi:P.info? t=some ti) (hs:ti.size=w) (hw:∀a,(enc a).length=w) {l:List α} {i:Nat} (h:i<l.length):
  (XOp.load t).run P [.vptr (bA_ enc (l.drop i))]=some (.agg (enc l[i])):=by
 show bl_ P h0 t (.vptr _)=_
 unfold bl_ aV_
 rw [List.drop_eq_getElem_cons h]
 simp only [ht,ha,hi,hs,bA_]
 rw [←hw l[i],eW_]
theorem s2_ {d:TypeDesc} (ht:P.underlying t=some d) (ha:lS_ d=false) (x:AV) (r:List AV):(XOp.load t).run P [.vptr (x::r)]=some x:=by
 show bl_ P h0 t (.vptr _)=_
 unfold bl_ aV_
 simp only [ht,ha,a3_]
theorem ub_ {sz bytes:Nat} (hw:∀a,(enc a).length=sz) (hsz:0<sz) (hb:0<bytes) (l:List α) (a:α) (hl:(l.length+1)*bytes<=1073741824):(XOp.app sz bytes).run P [c2_ enc sz l,.agg (enc a)]=some (c2_ enc sz (l++[a])):=by
 have h1:Nat.div (a0_ (enc a)) sz=1:=by rw [ah_,hw];exact Nat.div_self hsz
 have hl1:l.length+1<=1073741824:=Nat.le_trans (Nat.le_mul_of_pos_right _ hb) hl
 show (match bH_ sz (.agg (enc a))with|some (n,l')=>kS_ sz bytes (c2_ enc sz l) n l'|none=>none)=_
 simp only [bH_,h1]
 unfold kS_
 have hd:decide ((enc a).length=1*sz)=true:=by rw [hw,Nat.one_mul];exact decide_eq_true rfl
 simp only [hd]
 cases l with
 |nil=>
  have c1:(Nat.ble (Nat.mul 1 bytes) 1073741824&&Nat.ble 1 1073741824&&Nat.blt 0 bytes)=true:=by
   simp only [List.length_nil,Nat.zero_add,Nat.one_mul]at hl
   simp [Nat.ble_eq,Nat.blt_eq,hb,hl]
  simp only [c2_,c1,List.nil_append,List.length_nil,bA_,List.append_nil]
 |cons b r=>
  have hd2:decide (sz=sz/\(bA_ enc (b::r)).length=(r.length+1)*sz)=true:=decide_eq_true ⟨rfl,du_ hw (b::r)⟩
  have c1:(Nat.ble (Nat.mul (Nat.add (r.length+1) 1) bytes) 1073741824&&Nat.ble (Nat.add (r.length+1) 1) 1073741824&&Nat.blt 0 bytes)=true:=by
   have e1:Nat.mul (Nat.add (r.length+1) 1) bytes=(r.length+1+1)*bytes:=rfl
   have e2:Nat.add (r.length+1) 1=r.length+1+1:=rfl
   rw [e1,e2]
   simp only [List.length_cons]at hl hl1
   simp [Nat.ble_eq,Nat.blt_eq,hb,hl,hl1]
  have hlen:(bA_ enc (b::r)).length=(r.length+1)*sz:=du_ hw (b::r)
  have e3:bA_ enc (b::(r++[a]))=bA_ enc (b::r)++enc a:=by
   rw [←List.cons_append,eA_];simp only [bA_,List.append_nil]
  have e4:(r++[a]).length+1=Nat.add (r.length+1) 1:=by simp
  simp only [c2_,hlen,true_and,decide_true,c1,List.cons_append,e3,e4]
end
def pD_ {α:Type} (enc:α->List AV) (w:Nat) (l:List α):AV:=.vsl l.length w (bA_ enc l)
def SlV {α:Type} (enc:α->List AV) (w:Nat) (l:List α) (a:AV):Prop:=a=pD_ enc w l\/(l=[]/\a=.nsl)
section
variable {α:Type} {enc:α->List AV} {w:Nat}
theorem SlV.of (l:List α):SlV enc w l (c2_ enc w l):=by
 cases l with
 |nil=>exact .inr ⟨rfl,rfl⟩
 |cons a r=>exact .inl rfl
theorem SlV.v (l:List α):SlV enc w l (pD_ enc w l):=.inl rfl
theorem SlV.eq {l:List α} {a:AV} (h:SlV enc w l a) (hl:l≠[]):a=c2_ enc w l:=by
 rcases h with h|⟨h,_⟩
 .rw [h]
  cases l with
  |nil=>exact absurd rfl hl
  |cons a r=>rfl
 .exact absurd h hl
theorem sh_ (h:∀a,okL (enc a)=true) (l:List α):okC (pD_ enc w l)=true:=by
 show okL (bA_ enc l)=true
 exact oL_ h l
theorem SlV.ok {l:List α} {a:AV} (h:SlV enc w l a) (he:∀a,okL (enc a)=true):okC a=true:=by
 rcases h with h|⟨_,h⟩
 .rw [h];exact sh_ he l
 .rw [h];rfl
variable {P:Program} {t e:TypeId} {ti:TypeInfo}
theorem SlV.len {l:List α} {a:AV} (h:SlV enc w l a) (ht:P.underlying t=some (.slice e)):(XOp.len t).run P [a]=some (.int .i64 (l.length:Int)):=by
 rcases h with h|⟨h1,h⟩
 .subst h
  show cg_ P h0 t (.vsl l.length w (bA_ enc l))=_;unfold cg_;rw [ht];rfl
 .subst h h1
  show cg_ P h0 t .nsl=_;unfold cg_;rw [ht];rfl
theorem SlV.ia {l:List α} {a:AV} (h:SlV enc w l a) (ht:P.underlying t=some (.slice e)) (hi:P.info? e=some ti) (hs:ti.size=w) (hw:∀a,(enc a).length=w) {i:Nat} (hl:i<l.length) (k:IntKind):
  (XOp.iaddr t).run P [a,.int k (i:Int)]=some (.vptr (bA_ enc (l.drop i))):=by
 rw [h.eq (λe=>by rw [e]at hl;simp at hl)]
 exact run_iaddr_sl ht hi hs hw hl k
theorem pq_ (ht:P.underlying t=some (.slice e)) (hi:P.info? e=some ti) (hs:ti.size=w) (hw:∀a,(enc a).length=w) {l:List α} {a:AV} (h:SlV enc w l a) {lo hi':Option AV} {i j:Nat} (hlo:bnd lo 0=some i) (hhi:bnd hi' l.length=some j) (hij:i<=j) (hj:j<=l.length):
  ∃r,dG_ a (aL_ P h0 t a lo hi')=some r/\SlV enc w ((l.take j).drop i) r:=by
 rcases h with h|⟨h1,h⟩
 .subst h
  refine ⟨pD_ enc w ((l.take j).drop i),?_,.inl rfl⟩
  show aL_ P h0 t (.vsl l.length w (bA_ enc l)) lo hi'=_
  unfold aL_
  have hb:(Nat.ble i j&&(Nat.ble j l.length&&Nat.beq w ti.size))=true:=by
   rw [hs];simp [Nat.ble_eq,hij,hj]
  simp only [hlo,ht,hi,hhi,hb,aq_]
  have hlen:((l.take j).drop i).length=j-i:=by rw [List.length_drop,List.length_take];omega
  have e1:(bA_ enc l).drop (Nat.mul i w)=bA_ enc ((l.take j).drop i)++bA_ enc (l.drop j):=by
   show (bA_ enc l).drop (i*w)=_
   rw [gF_ hw,←eA_,←List.drop_append_of_le_length (by rw [List.length_take];omega),List.take_append_drop]
  have e2:a3_ (Nat.mul (Nat.sub j i) w) (bA_ enc ((l.take j).drop i)++bA_ enc (l.drop j))=some (bA_ enc ((l.take j).drop i)):=by
   have:=eW_ (bA_ enc ((l.take j).drop i)) (bA_ enc (l.drop j))
   rw [du_ hw,hlen]at this
   exact this
  rw [e1,e2]
  show some (AV.vsl (Nat.sub j i) w _)=some (AV.vsl ((l.take j).drop i).length w _)
  rw [hlen];rfl
 .subst h h1
  have hj0:j=0:=by simpa using hj
  have hi0:i=0:=by omega
  subst hj0 hi0
  refine ⟨.nsl,?_,.inr ⟨rfl,rfl⟩⟩
  show aL_ P h0 t .nsl lo hi'=_
  unfold aL_
  simp only [List.length_nil]at hhi
  simp only [hlo,ht,hi,hhi]
theorem SlV.slc10 (ht:P.underlying t=some (.slice e)) (hi:P.info? e=some ti) (hs:ti.size=w) (hw:∀a,(enc a).length=w) {l:List α} {a:AV} (h:SlV enc w l a) {k:IntKind} {i:Nat} (hil:i<=l.length):
  ∃r,(XOp.slc t true false).run P [a,.int k (i:Int)]=some r/\SlV enc w (l.drop i) r:=by
 have:=pq_ ht hi hs hw h (lo:=some (.int k i)) (hi':=none) rfl rfl hil (Nat.le_refl _)
 rw [List.take_length]at this
 exact this
theorem SlV.slc01 (ht:P.underlying t=some (.slice e)) (hi:P.info? e=some ti) (hs:ti.size=w) (hw:∀a,(enc a).length=w) {l:List α} {a:AV} (h:SlV enc w l a) {k:IntKind} {j:Nat} (hj:j<=l.length):
  ∃r,(XOp.slc t false true).run P [a,.int k (j:Int)]=some r/\SlV enc w (l.take j) r:=by
 have:=pq_ ht hi hs hw h (lo:=none) (hi':=some (.int k j)) rfl rfl (Nat.zero_le _) hj
 rw [List.drop_zero]at this
 exact this
end
end Go.Sx
