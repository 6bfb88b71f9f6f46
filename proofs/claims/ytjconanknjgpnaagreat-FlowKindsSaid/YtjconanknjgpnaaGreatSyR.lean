/-
  Lists of elements of one width, as slices: what operations give.
-/
import Derived.Test.YtjconanknjgpnaaGreatSyQ
set_option linter.unusedVariables false
set_option linter.unusedSimpArgs false
namespace Go.Sx
def x_ {α:Type} (enc:α->List AV):List α->List AV
 |[]=>[]
 |a::r=>enc a++x_ enc r
def aC_ {α:Type} (enc:α->List AV) (w:Nat) (l:List α):AV:=match l with
 |[]=>.nsl
 |a::r=>.vsl (r.length+1) w (x_ enc (a::r))
section
variable {α:Type} {enc:α->List AV} {w:Nat}
theorem dT_:∀a b:List α,x_ enc (a++b)=x_ enc a++x_ enc b
 |[],b=>rfl
 |x::r,b=>by simp only [List.cons_append,x_,dT_ r b,List.append_assoc]
theorem dY_ (hw:∀a,(enc a).length=w):∀l:List α,(x_ enc l).length=l.length*w
 |[]=>by simp [x_]
 |a::r=>by simp only [x_,List.length_append,hw,dY_ hw r,List.length_cons,Nat.add_mul];omega
theorem lX_ (hw:∀a,(enc a).length=w):∀(l:List α) (i:Nat),(x_ enc l).drop (i*w)=x_ enc (l.drop i)
 |l,0=>by simp
 |[],i+1=>by simp [x_]
 |a::r,i+1=>by
  simp only [x_,List.drop_succ_cons]
  rw [←lX_ hw r i,Nat.add_mul,Nat.one_mul,Nat.add_comm,←List.drop_drop,List.drop_left' (hw a)]
theorem i_ (h:∀a,B_ (enc a)=true):∀l:List α,B_ (x_ enc l)=true
 |[]=>rfl
 |a::r=>okL_join (h a) (i_ h r)
where
 okL_join:∀{a b:List AV},B_ a=true->B_ b=true->B_ (a++b)=true
 |[],b,_,h=>h
 |x::r,b,h1,h2=>by
  rw [H_]at h1
  obtain ⟨k1,k2⟩:=a_ h1
  rw [List.cons_append,H_,k1,okL_join k2 h2];rfl
mutual
theorem tp_:∀{a:AV},I_ a=true->al_ a=true
 | .opq,h=>by simp [I_]at h
 | .bool _,_=>rfl
 | .int _ _,_=>rfl
 | .flt _ _,_=>rfl
 | .nan _,_=>rfl
 | .str _,_=>rfl
 | .nptr,_=>rfl
 | .ptr _ _,h=>by simp [I_]at h
 | .vptr cs,h=>by simp only [I_]at h;simp only [al_];exact bF_ h
 | .nsl,_=>rfl
 | .sl ..,h=>by simp [I_]at h
 | .vsl _ _ cs,h=>by simp only [I_]at h;simp only [al_];exact bF_ h
 | .nmap,_=>rfl
 | .map _,h=>by simp [I_]at h
 | .nfn,_=>rfl
 | .fn _ cs,h=>by simp only [I_]at h;simp only [al_];exact bF_ h
 | .nif,_=>rfl
 | .iface _ a,h=>by simp only [I_]at h;simp only [al_];exact mL_ h
 | .agg _,h=>by simp [I_]at h
 | .tup _,h=>by simp [I_]at h
 | .sym _,h=>by simp [I_]at h
 | .slx ..,h=>by simp [I_]at h
 | .ptx ..,h=>by simp [I_]at h
theorem mL_:∀{a:AV},okI a=true->al_ a=true
 | .opq,h=>by simp [okI]at h
 | .bool _,_=>rfl
 | .int _ _,_=>rfl
 | .flt _ _,_=>rfl
 | .nan _,_=>rfl
 | .str _,_=>rfl
 | .nptr,_=>rfl
 | .ptr _ _,h=>by simp [okI]at h
 | .vptr cs,h=>by simp only [okI]at h;simp only [al_];exact bF_ h
 | .nsl,_=>rfl
 | .sl ..,h=>by simp [okI]at h
 | .vsl _ _ cs,h=>by simp only [okI]at h;simp only [al_];exact bF_ h
 | .nmap,_=>rfl
 | .map _,h=>by simp [okI]at h
 | .nfn,_=>rfl
 | .fn _ cs,h=>by simp only [okI]at h;simp only [al_];exact bF_ h
 | .nif,_=>rfl
 | .iface _ a,h=>by simp only [okI]at h;simp only [al_];exact mL_ h
 | .agg cs,h=>by simp only [okI]at h;simp only [al_];exact bF_ h
 | .tup _,h=>by simp [okI]at h
 | .sym _,h=>by simp [okI]at h
 | .slx ..,h=>by simp [okI]at h
 | .ptx ..,h=>by simp [okI]at h
theorem bF_:∀{l:List AV},B_ l=true->cV_ l=true
 |[],_=>rfl
 |a::r,h=>by
  rw [H_]at h
  obtain ⟨h1,h2⟩:=a_ h
  simp only [cV_,tp_ h1,bF_ h2]
end
variable {P:Program} {t e:TypeId} {ti:TypeInfo}
theorem gD_ (ht:P.underlying t=some (.slice e)) (l:List α):(XOp.len t).run P [aC_ enc w l]=some (.int .i64 (l.length:Int)):=by
 cases l with
 |nil=>show cm_ P h0 t .nsl=_;unfold cm_;rw [ht];rfl
 |cons a r=>show cm_ P h0 t (.vsl (r.length+1) w (x_ enc (a::r)))=_;unfold cm_;rw [ht];rfl
theorem run_iaddr_sl (ht:P.underlying t=some (.slice e)) (hi:P.info? e=some ti) (hs:ti.size=w) (hw:∀a,(enc a).length=w) {l:List α} {i:Nat} (h:i<l.length) (k:IntKind):
  (XOp.iaddr t).run P [aC_ enc w l,.int k (i:Int)]=some (.vptr (x_ enc (l.drop i))):=by
 cases l with
 |nil=>simp at h
 |cons a r=>
  show as_ P t (.vsl (r.length+1) w _) (.int k (.ofNat i))=_
  unfold as_
  have hb:Nat.blt i (r.length+1)=true:=by simpa [Nat.blt_eq]using h
  simp only [ht,hi,idx,hb,hs,J_]
  have:=lX_ hw (a::r) i
  show some (AV.vptr ((x_ enc (a::r)).drop (i*w)))=_
  rw [this]
theorem fj_:∀(a b:List AV),aO_ a.length (a++b)=some a
 |[],b=>rfl
 |x::r,b=>by simp only [List.length_cons,List.cons_append,aO_,fj_ r b]
theorem run_load_agg {d:TypeDesc} (ht:P.underlying t=some d) (ha:lk_ d=true) (hi:P.info? t=some ti) (hs:ti.size=w) (hw:∀a,(enc a).length=w) {l:List α} {i:Nat} (h:i<l.length):
  (XOp.load t).run P [.vptr (x_ enc (l.drop i))]=some (.agg (enc l[i])):=by
 show aD_ P h0 t (.vptr _)=_
 unfold aD_ am_
 rw [List.drop_eq_getElem_cons h]
 simp only [ht,ha,hi,hs,x_]
 rw [←hw l[i],fj_]
theorem dh_ {d:TypeDesc} (ht:P.underlying t=some d) (ha:lk_ d=false) (x:AV) (r:List AV):(XOp.load t).run P [.vptr (x::r)]=some x:=by
 show aD_ P h0 t (.vptr _)=_
 unfold aD_ am_
 simp only [ht,ha,aO_]
theorem gH_ {sz bytes:Nat} (hw:∀a,(enc a).length=sz) (hsz:0<sz) (hb:0<bytes) (l:List α) (a:α) (hl:(l.length+1)*bytes<=1073741824):(XOp.app sz bytes).run P [aC_ enc sz l,.agg (enc a)]=some (aC_ enc sz (l++[a])):=by
 have h1:Nat.div (aB_ (enc a)) sz=1:=by rw [u_,hw];exact Nat.div_self hsz
 have hl1:l.length+1<=1073741824:=Nat.le_trans (Nat.le_mul_of_pos_right _ hb) hl
 show (match bv_ sz (.agg (enc a))with|some (n,l')=>na_ sz bytes (aC_ enc sz l) n l'|none=>none)=_
 simp only [bv_,h1]
 unfold na_
 have hd:decide ((enc a).length=1*sz)=true:=by rw [hw,Nat.one_mul];exact decide_eq_true rfl
 simp only [hd]
 cases l with
 |nil=>
  have c1:(Nat.ble (Nat.mul 1 bytes) 1073741824&&Nat.ble 1 1073741824&&Nat.blt 0 bytes)=true:=by
   simp only [List.length_nil,Nat.zero_add,Nat.one_mul]at hl
   simp [Nat.ble_eq,Nat.blt_eq,hb,hl]
  simp only [aC_,c1,List.nil_append,List.length_nil,x_,List.append_nil]
 |cons b r=>
  have hd2:decide (sz=sz/\(x_ enc (b::r)).length=(r.length+1)*sz)=true:=decide_eq_true ⟨rfl,dY_ hw (b::r)⟩
  have c1:(Nat.ble (Nat.mul (Nat.add (r.length+1) 1) bytes) 1073741824&&Nat.ble (Nat.add (r.length+1) 1) 1073741824&&Nat.blt 0 bytes)=true:=by
   have e1:Nat.mul (Nat.add (r.length+1) 1) bytes=(r.length+1+1)*bytes:=rfl
   have e2:Nat.add (r.length+1) 1=r.length+1+1:=rfl
   rw [e1,e2]
   simp only [List.length_cons]at hl hl1
   simp [Nat.ble_eq,Nat.blt_eq,hb,hl,hl1]
  have hlen:(x_ enc (b::r)).length=(r.length+1)*sz:=dY_ hw (b::r)
  have e3:x_ enc (b::(r++[a]))=x_ enc (b::r)++enc a:=by
   rw [←List.cons_append,dT_];simp only [x_,List.append_nil]
  have e4:(r++[a]).length+1=Nat.add (r.length+1) 1:=by simp
  simp only [aC_,hlen,true_and,decide_true,c1,List.cons_append,e3,e4]
end
def rh_ {α:Type} (enc:α->List AV) (w:Nat) (l:List α):AV:=.vsl l.length w (x_ enc l)
def SlV {α:Type} (enc:α->List AV) (w:Nat) (l:List α) (a:AV):Prop:=a=rh_ enc w l\/(l=[]/\a=.nsl)
section
variable {α:Type} {enc:α->List AV} {w:Nat}
theorem SlV.of (l:List α):SlV enc w l (aC_ enc w l):=by
 cases l with
 |nil=>exact .inr ⟨rfl,rfl⟩
 |cons a r=>exact .inl rfl
theorem SlV.v (l:List α):SlV enc w l (rh_ enc w l):=.inl rfl
theorem SlV.eq {l:List α} {a:AV} (h:SlV enc w l a) (hl:l≠[]):a=aC_ enc w l:=by
 rcases h with h|⟨h,_⟩
 .rw [h]
  cases l with
  |nil=>exact absurd rfl hl
  |cons a r=>rfl
 .exact absurd h hl
theorem vy_ (h:∀a,B_ (enc a)=true) (l:List α):I_ (rh_ enc w l)=true:=by
 show B_ (x_ enc l)=true
 exact i_ h l
theorem SlV.ok {l:List α} {a:AV} (h:SlV enc w l a) (he:∀a,B_ (enc a)=true):I_ a=true:=by
 rcases h with h|⟨_,h⟩
 .rw [h];exact vy_ he l
 .rw [h];rfl
variable {P:Program} {t e:TypeId} {ti:TypeInfo}
theorem SlV.len {l:List α} {a:AV} (h:SlV enc w l a) (ht:P.underlying t=some (.slice e)):(XOp.len t).run P [a]=some (.int .i64 (l.length:Int)):=by
 rcases h with h|⟨h1,h⟩
 .subst h
  show cm_ P h0 t (.vsl l.length w (x_ enc l))=_;unfold cm_;rw [ht];rfl
 .subst h h1
  show cm_ P h0 t .nsl=_;unfold cm_;rw [ht];rfl
theorem SlV.ia {l:List α} {a:AV} (h:SlV enc w l a) (ht:P.underlying t=some (.slice e)) (hi:P.info? e=some ti) (hs:ti.size=w) (hw:∀a,(enc a).length=w) {i:Nat} (hl:i<l.length) (k:IntKind):
  (XOp.iaddr t).run P [a,.int k (i:Int)]=some (.vptr (x_ enc (l.drop i))):=by
 rw [h.eq (λe=>by rw [e]at hl;simp at hl)]
 exact run_iaddr_sl ht hi hs hw hl k
end
end Go.Sx
