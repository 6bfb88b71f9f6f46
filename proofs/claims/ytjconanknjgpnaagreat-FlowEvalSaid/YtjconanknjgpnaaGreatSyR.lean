/-
  Lists of elements of one width, as slices: what operations give.
-/
import Derived.Test.YtjconanknjgpnaaGreatSyQ
set_option linter.unusedVariables false
set_option linter.unusedSimpArgs false
namespace Go.Sx
def encL {α:Type} (enc:α->List AV):List α->List AV
 |[]=>[]
 |a::r=>enc a++encL enc r
def sliceOf {α:Type} (enc:α->List AV) (w:Nat) (l:List α):AV:=match l with
 |[]=>.nsl
 |a::r=>.vsl (r.length+1) w (encL enc (a::r))
section
variable {α:Type} {enc:α->List AV} {w:Nat}
theorem encL_append:∀a b:List α,encL enc (a++b)=encL enc a++encL enc b
 |[],b=>rfl
 |x::r,b=>by simp only [List.cons_append,encL,encL_append r b,List.append_assoc]
theorem encL_length (hw:∀a,(enc a).length=w):∀l:List α,(encL enc l).length=l.length*w
 |[]=>by simp [encL]
 |a::r=>by simp only [encL,List.length_append,hw,encL_length hw r,List.length_cons,Nat.add_mul];omega
theorem encL_drop (hw:∀a,(enc a).length=w):∀(l:List α) (i:Nat),(encL enc l).drop (i*w)=encL enc (l.drop i)
 |l,0=>by simp
 |[],i+1=>by simp [encL]
 |a::r,i+1=>by
  simp only [encL,List.drop_succ_cons]
  rw [←encL_drop hw r i,Nat.add_mul,Nat.one_mul,Nat.add_comm,←List.drop_drop,List.drop_left' (hw a)]
theorem encL_ok (h:∀a,okL (enc a)=true):∀l:List α,okL (encL enc l)=true
 |[]=>rfl
 |a::r=>okL_join (h a) (encL_ok h r)
where
 okL_join:∀{a b:List AV},okL a=true->okL b=true->okL (a++b)=true
 |[],b,_,h=>h
 |x::r,b,h1,h2=>by
  rw [okL_cons]at h1
  obtain ⟨k1,k2⟩:=and_split h1
  rw [List.cons_append,okL_cons,k1,okL_join k2 h2];rfl
mutual
theorem okC_noRef:∀{a:AV},okC a=true->noRef a=true
 | .opq,h=>by simp [okC]at h
 | .bool _,_=>rfl
 | .int _ _,_=>rfl
 | .flt _ _,_=>rfl
 | .nan _,_=>rfl
 | .str _,_=>rfl
 | .nptr,_=>rfl
 | .ptr _ _,h=>by simp [okC]at h
 | .vptr cs,h=>by simp only [okC]at h;simp only [noRef];exact okL_noRef h
 | .nsl,_=>rfl
 | .sl ..,h=>by simp [okC]at h
 | .vsl _ _ cs,h=>by simp only [okC]at h;simp only [noRef];exact okL_noRef h
 | .nmap,_=>rfl
 | .map _,h=>by simp [okC]at h
 | .nfn,_=>rfl
 | .fn _ cs,h=>by simp only [okC]at h;simp only [noRef];exact okL_noRef h
 | .nif,_=>rfl
 | .iface _ a,h=>by simp only [okC]at h;simp only [noRef];exact okI_noRef h
 | .agg _,h=>by simp [okC]at h
 | .tup _,h=>by simp [okC]at h
 | .sym _,h=>by simp [okC]at h
 | .slx ..,h=>by simp [okC]at h
 | .ptx ..,h=>by simp [okC]at h
theorem okI_noRef:∀{a:AV},okI a=true->noRef a=true
 | .opq,h=>by simp [okI]at h
 | .bool _,_=>rfl
 | .int _ _,_=>rfl
 | .flt _ _,_=>rfl
 | .nan _,_=>rfl
 | .str _,_=>rfl
 | .nptr,_=>rfl
 | .ptr _ _,h=>by simp [okI]at h
 | .vptr cs,h=>by simp only [okI]at h;simp only [noRef];exact okL_noRef h
 | .nsl,_=>rfl
 | .sl ..,h=>by simp [okI]at h
 | .vsl _ _ cs,h=>by simp only [okI]at h;simp only [noRef];exact okL_noRef h
 | .nmap,_=>rfl
 | .map _,h=>by simp [okI]at h
 | .nfn,_=>rfl
 | .fn _ cs,h=>by simp only [okI]at h;simp only [noRef];exact okL_noRef h
 | .nif,_=>rfl
 | .iface _ a,h=>by simp only [okI]at h;simp only [noRef];exact okI_noRef h
 | .agg cs,h=>by simp only [okI]at h;simp only [noRef];exact okL_noRef h
 | .tup _,h=>by simp [okI]at h
 | .sym _,h=>by simp [okI]at h
 | .slx ..,h=>by simp [okI]at h
 | .ptx ..,h=>by simp [okI]at h
theorem okL_noRef:∀{l:List AV},okL l=true->noRefL l=true
 |[],_=>rfl
 |a::r,h=>by
  rw [okL_cons]at h
  obtain ⟨h1,h2⟩:=and_split h
  simp only [noRefL,okC_noRef h1,okL_noRef h2]
end
variable {P:Program} {t e:TypeId} {ti:TypeInfo}
theorem run_len_sl (ht:P.underlying t=some (.slice e)) (l:List α):(XOp.len t).run P [sliceOf enc w l]=some (.int .i64 (l.length:Int)):=by
 cases l with
 |nil=>show evLen P h0 t .nsl=_;unfold evLen;rw [ht];rfl
 |cons a r=>show evLen P h0 t (.vsl (r.length+1) w (encL enc (a::r)))=_;unfold evLen;rw [ht];rfl
theorem run_iaddr_sl (ht:P.underlying t=some (.slice e)) (hi:P.info? e=some ti) (hs:ti.size=w) (hw:∀a,(enc a).length=w) {l:List α} {i:Nat} (h:i<l.length) (k:IntKind):
  (XOp.iaddr t).run P [sliceOf enc w l,.int k (i:Int)]=some (.vptr (encL enc (l.drop i))):=by
 cases l with
 |nil=>simp at h
 |cons a r=>
  show evIndexAddr P t (.vsl (r.length+1) w _) (.int k (.ofNat i))=_
  unfold evIndexAddr
  have hb:Nat.blt i (r.length+1)=true:=by simpa [Nat.blt_eq]using h
  simp only [ht,hi,idx,hb,hs,dropA_eq]
  have:=encL_drop hw (a::r) i
  show some (AV.vptr ((encL enc (a::r)).drop (i*w)))=_
  rw [this]
theorem takeEx_left:∀(a b:List AV),takeEx a.length (a++b)=some a
 |[],b=>rfl
 |x::r,b=>by simp only [List.length_cons,List.cons_append,takeEx,takeEx_left r b]
theorem run_load_agg {d:TypeDesc} (ht:P.underlying t=some d) (ha:aggB d=true) (hi:P.info? t=some ti) (hs:ti.size=w) (hw:∀a,(enc a).length=w) {l:List α} {i:Nat} (h:i<l.length):
  (XOp.load t).run P [.vptr (encL enc (l.drop i))]=some (.agg (enc l[i])):=by
 show evLoad P h0 t (.vptr _)=_
 unfold evLoad cellsAt
 rw [List.drop_eq_getElem_cons h]
 simp only [ht,ha,hi,hs,encL]
 rw [←hw l[i],takeEx_left]
theorem run_load_one {d:TypeDesc} (ht:P.underlying t=some d) (ha:aggB d=false) (x:AV) (r:List AV):(XOp.load t).run P [.vptr (x::r)]=some x:=by
 show evLoad P h0 t (.vptr _)=_
 unfold evLoad cellsAt
 simp only [ht,ha,takeEx]
theorem run_app_sl {sz bytes:Nat} (hw:∀a,(enc a).length=sz) (hsz:0<sz) (hb:0<bytes) (l:List α) (a:α) (hl:(l.length+1)*bytes<=1073741824):(XOp.app sz bytes).run P [sliceOf enc sz l,.agg (enc a)]=some (sliceOf enc sz (l++[a])):=by
 have h1:Nat.div (lenA (enc a)) sz=1:=by rw [lenA_eq,hw];exact Nat.div_self hsz
 have hl1:l.length+1<=1073741824:=Nat.le_trans (Nat.le_mul_of_pos_right _ hb) hl
 show (match appArg sz (.agg (enc a))with|some (n,l')=>appV sz bytes (sliceOf enc sz l) n l'|none=>none)=_
 simp only [appArg,h1]
 unfold appV
 have hd:decide ((enc a).length=1*sz)=true:=by rw [hw,Nat.one_mul];exact decide_eq_true rfl
 simp only [hd]
 cases l with
 |nil=>
  have c1:(Nat.ble (Nat.mul 1 bytes) 1073741824&&Nat.ble 1 1073741824&&Nat.blt 0 bytes)=true:=by
   simp only [List.length_nil,Nat.zero_add,Nat.one_mul]at hl
   simp [Nat.ble_eq,Nat.blt_eq,hb,hl]
  simp only [sliceOf,c1,List.nil_append,List.length_nil,encL,List.append_nil]
 |cons b r=>
  have hd2:decide (sz=sz/\(encL enc (b::r)).length=(r.length+1)*sz)=true:=decide_eq_true ⟨rfl,encL_length hw (b::r)⟩
  have c1:(Nat.ble (Nat.mul (Nat.add (r.length+1) 1) bytes) 1073741824&&Nat.ble (Nat.add (r.length+1) 1) 1073741824&&Nat.blt 0 bytes)=true:=by
   have e1:Nat.mul (Nat.add (r.length+1) 1) bytes=(r.length+1+1)*bytes:=rfl
   have e2:Nat.add (r.length+1) 1=r.length+1+1:=rfl
   rw [e1,e2]
   simp only [List.length_cons]at hl hl1
   simp [Nat.ble_eq,Nat.blt_eq,hb,hl,hl1]
  have hlen:(encL enc (b::r)).length=(r.length+1)*sz:=encL_length hw (b::r)
  have e3:encL enc (b::(r++[a]))=encL enc (b::r)++enc a:=by
   rw [←List.cons_append,encL_append];simp only [encL,List.append_nil]
  have e4:(r++[a]).length+1=Nat.add (r.length+1) 1:=by simp
  simp only [sliceOf,hlen,true_and,decide_true,c1,List.cons_append,e3,e4]
end
def vslOf {α:Type} (enc:α->List AV) (w:Nat) (l:List α):AV:=.vsl l.length w (encL enc l)
def SlV {α:Type} (enc:α->List AV) (w:Nat) (l:List α) (a:AV):Prop:=a=vslOf enc w l\/(l=[]/\a=.nsl)
section
variable {α:Type} {enc:α->List AV} {w:Nat}
theorem SlV.v (l:List α):SlV enc w l (vslOf enc w l):=.inl rfl
theorem SlV.eq {l:List α} {a:AV} (h:SlV enc w l a) (hl:l≠[]):a=sliceOf enc w l:=by
 rcases h with h|⟨h,_⟩
 ·rw [h]
  cases l with
  |nil=>exact absurd rfl hl
  |cons a r=>rfl
 ·exact absurd h hl
theorem vslOf_ok (h:∀a,okL (enc a)=true) (l:List α):okC (vslOf enc w l)=true:=by
 show okL (encL enc l)=true
 exact encL_ok h l
theorem SlV.ok {l:List α} {a:AV} (h:SlV enc w l a) (he:∀a,okL (enc a)=true):okC a=true:=by
 rcases h with h|⟨_,h⟩
 ·rw [h];exact vslOf_ok he l
 ·rw [h];rfl
variable {P:Program} {t e:TypeId} {ti:TypeInfo}
theorem SlV.len {l:List α} {a:AV} (h:SlV enc w l a) (ht:P.underlying t=some (.slice e)):(XOp.len t).run P [a]=some (.int .i64 (l.length:Int)):=by
 rcases h with h|⟨h1,h⟩
 ·subst h
  show evLen P h0 t (.vsl l.length w (encL enc l))=_;unfold evLen;rw [ht];rfl
 ·subst h h1
  show evLen P h0 t .nsl=_;unfold evLen;rw [ht];rfl
theorem SlV.ia {l:List α} {a:AV} (h:SlV enc w l a) (ht:P.underlying t=some (.slice e)) (hi:P.info? e=some ti) (hs:ti.size=w) (hw:∀a,(enc a).length=w) {i:Nat} (hl:i<l.length) (k:IntKind):
  (XOp.iaddr t).run P [a,.int k (i:Int)]=some (.vptr (encL enc (l.drop i))):=by
 rw [h.eq (λe=>by rw [e]at hl;simp at hl)]
 exact run_iaddr_sl ht hi hs hw hl k
theorem SlV.arg {l:List α} {a:AV} (h:SlV enc w l a) (hw:∀a,(enc a).length=w):appArg w a=some (l.length,encL enc l):=by
 rcases h with h|⟨h1,h⟩
 ·subst h
  have:srcCells ⟨hnil,0,0⟩ (vslOf enc w l) l.length w=some (encL enc l):=by
   unfold srcCells
   show takeEx (Nat.mul l.length w) (encL enc l)=_
   have h:=takeEx_left (encL enc l) []
   rw [List.append_nil,encL_length hw]at h
   exact h
  show (match srcCells ⟨hnil,0,0⟩ (vslOf enc w l) l.length w with|some q=>some (l.length,q)|none=>none)=_
  rw [this]
 ·subst h h1;rfl
theorem SlV.app {sz bytes:Nat} {enc:α->List AV} (hw:∀a,(enc a).length=sz) (hsz:0<sz) (hb:0<bytes) {l l':List α} {a a':AV} (h:SlV enc sz l a) (h':SlV enc sz l' a') (hl:(l.length+l'.length)*bytes<=1073741824):
  ∃r,(XOp.app sz bytes).run P [a,a']=some r/\SlV enc sz (l++l') r:=by
 have harg:=h'.arg hw
 have hl1:l.length+l'.length<=1073741824:=Nat.le_trans (Nat.le_mul_of_pos_right _ hb) hl
 have e0:(XOp.app sz bytes).run P [a,a']=appV sz bytes a l'.length (encL enc l'):=by
  show (match appArg sz a' with|some (n,l')=>appV sz bytes a n l'|none=>none)=_
  rw [harg]
 rw [e0]
 unfold appV
 have hd:decide ((encL enc l').length=l'.length*sz)=true:=decide_eq_true (encL_length hw l')
 simp only [hd]
 cases l' with
 |nil=>
  rw [List.append_nil]
  rcases h with h|⟨h1,h⟩
  ·subst h
   exact ⟨vslOf enc sz l,by simp only [vslOf,encL_length hw,and_self,decide_true,List.length_nil],.inl rfl⟩
  ·subst h;exact ⟨.nsl,rfl,.inr ⟨h1,rfl⟩⟩
 |cons x r=>
  have c0:∀m:Nat,m=l.length+(x::r).length->(Nat.ble (Nat.mul m bytes) 1073741824&&Nat.ble m 1073741824&&Nat.blt 0 bytes)=true:=λm hm=>by
   subst hm
   have e1:Nat.mul (l.length+(x::r).length) bytes=(l.length+(x::r).length)*bytes:=rfl
   rw [e1]
   simp only [Bool.and_eq_true,Nat.ble_eq,Nat.blt_eq]
   exact ⟨⟨hl,hl1⟩,hb⟩
  rcases h with h|⟨h1,h⟩
  ·subst h
   refine ⟨vslOf enc sz (l++x::r),?_,.inl rfl⟩
   have c1:=c0 (Nat.add l.length (r.length+1)) rfl
   have e2:Nat.add l.length (r.length+1)=l.length+(r.length+1):=rfl
   rw [e2]at c1
   simp only [vslOf,encL_length hw,and_self,decide_true,List.length_cons,c1,List.length_append,encL_append,e2]
  ·subst h h1
   refine ⟨vslOf enc sz (x::r),?_,.inl rfl⟩
   have c1:=c0 (r.length+1) (by simp)
   simp only [List.length_cons,c1,vslOf]
end
end Go.Sx
