/-
  The evaluator of code: a staged operation is the operation.
-/
import Derived.Test.YtjconanknjgpnaaGreatSxJ
set_option linter.unusedVariables false
set_option linter.unusedSimpArgs false
namespace Go.Sx
variable [Gl]
def nz_ (P:Program) (T:Tm) (H:AHeap) (o:Oper) (r:ORes):Prop:=aE_ P (look T) H o=some r\/ff_ P (look T) H o=some r
omit [Gl]in
theorem dw_ {P:Program} {ρ:Operand->AV} {o:Oper} {a:AV} (h:dQ_ P ρ o=some a) (H:AHeap):ff_ P ρ H o=some (.val a H):=by
 unfold dQ_ at h
 split at h
 .rename_i a' H' h'
  cases h
  unfold ff_ at h'⊢
  split at h'
  .split at h'<;>(first|(cases h';done)|skip)<;>(cases h';rfl)
  .cases h'
 .cases h
theorem i7_ {P:Program} {T:Tm} {H:AHeap} {o:Oper} {x:Option AV} {a:AV} (h:h6_ P T o x=some a) (hx:∀b,x=some b->aE_ P (look T) H o=some (.val b H)):nz_ P T H o (.val a H):=by
 unfold h6_ at h
 split at h
 .cases h;exact .inl (hx _ rfl)
 .exact .inr (dw_ h H)
theorem eL_ (T:Tm) (x:Operand):(aX_ x).f T=look T x:=rfl
section
variable {P:Program} {T:Tm} {H:AHeap}
omit [Gl]in
theorem cm_ {f:Tm->Option AV} {r:ORes} (h:(OC.po f).run T H=some r):∃a,f T=some a/\r=.val a H:=by
 unfold OC.run at h
 simp only at h
 split at h
 .rename_i a ha;cases h;exact ⟨a,ha,rfl⟩
 .cases h
omit [Gl]in
theorem ha_ {f:Tm->AHeap->Option AV} {r:ORes} (h:(OC.ho f).run T H=some r):∃a,f T H=some a/\r=.val a H:=by
 unfold OC.run at h
 simp only at h
 split at h
 .rename_i a ha;cases h;exact ⟨a,ha,rfl⟩
 .cases h
omit [Gl]in
theorem dn_ {f:Tm->AHeap->Option (AV×AHeap)} {r:ORes} (h:(OC.hm f).run T H=some r):∃p,f T H=some p/\r=.val p.1 p.2:=by
 unfold OC.run at h
 simp only at h
 split at h
 .rename_i a H' ha;cases h;exact ⟨(a,H'),ha,rfl⟩
 .cases h
omit [Gl]in
theorem lB_ {f:Tm->Option (FuncId×List AV)} {r:ORes} (h:(OC.cl f).run T H=some r):∃p,f T=some p/\r=.call p.1 p.2:=by
 unfold OC.run at h
 simp only at h
 split at h
 .rename_i a H' ha;cases h;exact ⟨(a,H'),ha,rfl⟩
 .cases h
omit [Gl]in
theorem ud_ {f:Tm->Option (FuncId×List AV)} {r:ORes} (h:(OC.df f).run T H=some r):∃p,f T=some p/\r=.dfr p.1 p.2:=by
 unfold OC.run at h
 simp only at h
 split at h
 .rename_i a H' ha;cases h;exact ⟨(a,H'),ha,rfl⟩
 .cases h
omit [Gl]in
theorem b2_ {x:Option AV} {a:AV} (h:x=some a):oV H x=some (.val a H):=by subst h;rfl
omit [Gl]in
theorem b1_ {x:Option (AV×AHeap)} {p:AV×AHeap} (h:x=some p):oP x=some (.val p.1 p.2):=by subst h;rfl
omit [Gl]in
theorem ss_ {op:BinOp} {t:TypeId} {cx cy:Bool} {g:IntKind->Int->Int->AV} (hg:∀k a b,mj_ op k a b=some (g k a b)) (x y:AV):
  io_ g (λx y=>bJ_ P op t cx cy x y) x y=bJ_ P op t cx cy x y:=by
 unfold io_
 split
 .split
  .split
   .rename_i hk
    unfold bJ_ cU_
    simp only [hk,hg]
   .rfl
  .rfl
 .rfl
omit [Gl]in
theorem sr_ (op:BinOp) (t:TypeId) (cx cy:Bool) (x y:AV):tO_ P op t cx cy x y=bJ_ P op t cx cy x y:=by
 cases op<;>first|rfl|exact ss_ (λ_ _ _=>rfl) x y
theorem oq_ {o:Oper} {t:TypeId} {a:Operand} (ho:o.op=.load t a) {r:ORes} (h:(ac_ P o).run T H=some r):nz_ P T H o r:=by
 unfold ac_ at h
 rw [ho]at h
 simp only at h
 left
 unfold aE_
 rw [ho]
 simp only
 unfold bl_
 split at h
 .cases h
 .rename_i d hd
  rw [hd]
  simp only
  split at h
  .rename_i hag
   split at h
   .cases h
   .rename_i i hi
    obtain ⟨v,hv,rfl⟩:=ha_ h
    rw [hi]
    simp only
    unfold ri_ at hv
    rw [←eL_]
    split at hv
    .rename_i l hl;cases hv
     simp only [hag,hl];rfl
    .cases hv
  .rename_i hag
   obtain ⟨v,hv,rfl⟩:=ha_ h
   rw [rh_]at hv
   rw [←eL_]
   unfold ry_ at hv
   split at hv
   .rename_i c hc;cases hv;simp only [hag,hc];rfl
   .cases hv
theorem op_ {o:Oper} {c:Call} (ho:o.op=.call c) {r:ORes} (h:(ac_ P o).run T H=some r):nz_ P T H o r:=by
 unfold ac_ at h
 rw [ho]at h
 simp only at h
 unfold tq_ at h
 have hargs:=fZ_ T c.args.toList
 split at h
 .rename_i f hf
  split at h
  rename_i g hgl
  rw [hgl]at hargs
  simp only at hargs
  have gen:∀p,fnA P (look T f) (g T)=some p->aE_ P (look T) H o=some (.call p.1 p.2):=by
   intro p hp
   unfold aE_ d6_
   rw [ho]
   simp only [hf]
   unfold fnA at hp
   split at hp
   .rename_i g' cap hv
    split at hp
    .rename_i hcall
     cases hp
     rw [hv]
     simp only [hcall,hargs]
    .cases hp
   .cases hp
  cases f with
  |func id=>
   simp only at h
   split at h
   .rename_i hcall
    obtain ⟨p,hp,rfl⟩:=lB_ h
    cases hp
    left
    refine gen (id,g T) ?_
    have:look T (.func id)=.fn id []:=rfl
    rw [this]
    unfold fnA
    simp only [hcall,kR_,List.append_nil]
   .obtain ⟨a,ha,rfl⟩:=cm_ h
    exact .inr (dw_ ha H)
  |tmp t=>obtain ⟨p,hp,rfl⟩:=lB_ h;exact .inl (gen p hp)
  |const v=>obtain ⟨p,hp,rfl⟩:=lB_ h;exact .inl (gen p hp)
  |global v=>obtain ⟨p,hp,rfl⟩:=lB_ h;exact .inl (gen p hp)
 .rename_i b hb
  split at h
  .split at h
   .rename_i x t h1 h2
    obtain ⟨a,ha,rfl⟩:=ha_ h
    left
    unfold aE_ d6_
    rw [ho]
    simp only [hb,h1,h2]
    exact b2_ ha
   .cases h
  .split at h
   .rename_i s x t tx h1 h2
    obtain ⟨p,hp,rfl⟩:=dn_ h
    left
    unfold aE_ d6_
    rw [ho]
    simp only [hb,h1,h2]
    exact b1_ hp
   .cases h
  .split at h
   .rename_i d s t tx h1 h2
    obtain ⟨p,hp,rfl⟩:=dn_ h
    left
    unfold aE_ d6_
    rw [ho]
    simp only [hb,h1,h2]
    exact b1_ hp
   .cases h
  .split at h
   .rename_i h1
    cases h
    left
    unfold aE_ d6_
    rw [ho]
    simp only [hb,h1]
   .cases h
  .obtain ⟨a,ha,rfl⟩:=cm_ h
   exact .inr (dw_ ha H)
 .cases h
theorem nf_ {o:Oper} {t:TypeId} {x:Operand} {lo hi mx:Option Operand} (ho:o.op=.slice t x lo hi mx) {r:ORes} (h:(ac_ P o).run T H=some r):nz_ P T H o r:=by
 unfold ac_ at h
 rw [ho]at h
 simp only at h
 left
 unfold aE_
 rw [ho]
 simp only
 cases mx with
 |some _=>cases h
 |none=>
  cases lo<;>cases hi<;>simp only at h<;>(obtain ⟨a,ha,rfl⟩:=ha_ h;exact b2_ ha)
theorem hR_ {o:Oper} {s:TypeId} {x:Operand} {f:Nat} (ho:o.op=.fieldAddr s x f) {r:ORes} (h:(ac_ P o).run T H=some r):nz_ P T H o r:=by
 unfold ac_ at h
 rw [ho]at h
 simp only at h
 left
 unfold aE_ b0_
 rw [ho]
 simp only
 split at h
 .rename_i fields hd
  rw [hd]
  simp only
  split at h
  .rename_i fl hfl
   rw [hfl]
   simp only
   split at h
   .rename_i i hi
    rw [hi]
    simp only
    split at h
    .cases h
    .rename_i n hn
     rw [hn]
     simp only
     obtain ⟨a,ha,rfl⟩:=cm_ h
     rw [eL_]at ha
     unfold qB_ at ha
     split at ha
     .rename_i id o' hv;cases ha;rw [hv];rfl
     .rename_i cs hv
      split at ha
      .rename_i hb;cases ha;rw [hv];simp only [hb];rfl
      .cases ha
     .cases ha
   .cases h
  .cases h
 .cases h
theorem hS_ {o:Oper} {t:TypeId} {x ix:Operand} (ho:o.op=.indexAddr t x ix) {r:ORes} (h:(ac_ P o).run T H=some r):nz_ P T H o r:=by
 unfold ac_ at h
 rw [ho]at h
 simp only at h
 left
 unfold aE_
 rw [ho]
 simp only
 split at h
 .rename_i e hd
  split at h
  .rename_i ti hti
   obtain ⟨a,ha,rfl⟩:=cm_ h
   rw [eL_,eL_]at ha
   refine b2_ ?_
   unfold aS_
   unfold ty_ at ha
   split at ha
   .rename_i k i hi
    rw [hi]
    simp only [hd,hti]
    split at ha
    .rename_i hv
     rw [hv]
     simp only
     split at ha
     .rename_i n hn;cases ha;rw [hn]
     .cases ha
    .rename_i hv
     rw [hv]
     simp only
     split at ha
     .rename_i n hn;cases ha;rw [hn]
     .cases ha
    .cases ha
   .cases ha
  .cases h
 .obtain ⟨a,ha,rfl⟩:=cm_ h
  exact b2_ ha
theorem rP_ {o:Oper} {r:ORes} (h:(ac_ P o).run T H=some r):nz_ P T H o r:=by
 cases ho:o.op with
 |load t a=>exact oq_ ho h
 |call c=>exact op_ ho h
 |slice t x lo hi mx=>exact nf_ ho h
 |fieldAddr s x f=>exact hR_ ho h
 |indexAddr t x ix=>exact hS_ ho h
 |move x=>unfold ac_ at h;rw [ho]at h;cases h;left;unfold aE_;rw [ho];rfl
 |assign x=>unfold ac_ at h;rw [ho]at h;cases h;left;unfold aE_;rw [ho];rfl
 |pick c a b=>
  unfold ac_ at h;rw [ho]at h
  obtain ⟨v,hv,rfl⟩:=cm_ h
  left;unfold aE_;rw [ho];simp only
  have hv:pl_ (look T c) (look T a) (look T b)=some v:=hv
  unfold pl_ at hv
  split at hv
  .rename_i t ht
   rw [ht]
   split at hv<;>(cases hv;rfl)
  .cases hv
 |alloc t=>unfold ac_ at h;rw [ho]at h;obtain ⟨p,hp,rfl⟩:=dn_ h;left;unfold aE_;rw [ho];exact b1_ hp
 |box _ x=>unfold ac_ at h;rw [ho]at h;obtain ⟨p,hp,rfl⟩:=dn_ h;left;unfold aE_;rw [ho];exact b1_ hp
 |build t parts=>
  unfold ac_ at h;rw [ho]at h
  obtain ⟨v,hv,rfl⟩:=cm_ h
  left;unfold aE_;rw [ho];simp only
  have hv:gb_ P t (cL_ (look T) parts.toList)=some v:=by rw [←g5_ T parts.toList];exact hv
  exact b2_ hv
 |buildSlice t n parts=>
  unfold ac_ at h;rw [ho]at h
  obtain ⟨v,hv,rfl⟩:=dn_ h
  left;unfold aE_;rw [ho];simp only
  have hv:bh_ P H t n (cL_ (look T) parts.toList)=some v:=by rw [←g5_ T parts.toList];exact hv
  exact b1_ hv
 |store t a x=>unfold ac_ at h;rw [ho]at h;obtain ⟨p,hp,rfl⟩:=dn_ h;left;unfold aE_;rw [ho];exact b1_ hp
 |nilCheck x=>
  unfold ac_ at h;rw [ho]at h
  obtain ⟨v,hv,rfl⟩:=cm_ h
  left;unfold aE_;rw [ho];simp only
  have hv:t5_ (look T x)=some v:=hv
  unfold t5_ at hv
  split at hv
  .rename_i ht;rw [ht];cases hv;rfl
  .rename_i ht;rw [ht];cases hv;rfl
  .cases hv
 |binOp op t x y yt=>
  unfold ac_ at h;rw [ho]at h
  obtain ⟨v,hv,rfl⟩:=cm_ h
  left;unfold aE_;rw [ho];simp only
  have hv:tO_ P op t (bj_ x) (bj_ y) (look T x) (look T y)=some v:=hv
  rw [sr_]at hv
  exact b2_ hv
 |unOp op t x=>
  unfold ac_ at h;rw [ho]at h
  obtain ⟨v,hv,rfl⟩:=cm_ h
  refine i7_ hv λb hb=>?_
  unfold aE_;rw [ho];exact b2_ hb
 |convert s d x=>
  unfold ac_ at h;rw [ho]at h
  simp only at h
  split at h
  .obtain ⟨v,hv,rfl⟩:=dn_ h
   left;unfold aE_;rw [ho];exact b1_ hv
  .obtain ⟨v,hv,rfl⟩:=ha_ h
   split at hv
   .rename_i a ha
    cases hv
    left;unfold aE_;rw [ho]
    refine b1_ (p:=(v,H)) ?_
    unfold fb_
    have ha:b7_ P H s d (look T x)=some v:=ha
    rw [ha]
   .exact .inr (dw_ hv H)
 |index t x i=>
  unfold ac_ at h;rw [ho]at h
  obtain ⟨v,hv,rfl⟩:=cm_ h
  refine i7_ hv λb hb=>?_
  unfold aE_;rw [ho];exact b2_ hb
 |makeInterface t x=>
  unfold ac_ at h;rw [ho]at h
  simp only at h
  split at h
  .rename_i hc
   cases h
   left;unfold aE_;rw [ho];simp only [hc];rfl
  .cases h
 |makeFunc fn first captured=>
  unfold ac_ at h;rw [ho]at h
  simp only at h
  split at h
  .split at h
   .rename_i f _ hf
    cases h
    left;unfold aE_;rw [ho];simp only [hf]
    rw [←fZ_ T captured.toList]
   .cases h
  .cases h
 |makeMap t r'=>
  unfold ac_ at h;rw [ho]at h
  cases r' with
  |none=>obtain ⟨p,hp,rfl⟩:=dn_ h;left;unfold aE_;rw [ho];exact b1_ hp
  |some _=>cases h
 |makeSlice t l c=>unfold ac_ at h;rw [ho]at h;obtain ⟨p,hp,rfl⟩:=dn_ h;left;unfold aE_;rw [ho];exact b1_ hp
 |field s x f=>unfold ac_ at h;rw [ho]at h;obtain ⟨p,hp,rfl⟩:=cm_ h;left;unfold aE_;rw [ho];exact b2_ hp
 |lookup t x ix ok=>unfold ac_ at h;rw [ho]at h;obtain ⟨p,hp,rfl⟩:=ha_ h;left;unfold aE_;rw [ho];exact b2_ hp
 |mapUpdate t m k x=>unfold ac_ at h;rw [ho]at h;obtain ⟨p,hp,rfl⟩:=dn_ h;left;unfold aE_;rw [ho];exact b1_ hp
 |insert t m k x=>unfold ac_ at h;rw [ho]at h;obtain ⟨p,hp,rfl⟩:=dn_ h;left;unfold aE_;rw [ho];exact b1_ hp
 |typeAssert x xt asserted ok=>unfold ac_ at h;rw [ho]at h;obtain ⟨p,hp,rfl⟩:=cm_ h;left;unfold aE_;rw [ho];exact b2_ hp
 |extract t ix=>unfold ac_ at h;rw [ho]at h;obtain ⟨p,hp,rfl⟩:=cm_ h;left;unfold aE_;rw [ho];exact b2_ hp
 |defer c=>
  unfold ac_ at h;rw [ho]at h
  simp only at h
  split at h
  .rename_i x hx
   obtain ⟨p,hp,rfl⟩:=ud_ h
   left;unfold aE_ k9_;rw [ho];simp only [hx]
   have hp:dfA P (look T x) (iV_ (look T) c.args.toList)=some p:=by rw [←fZ_ T c.args.toList];exact hp
   unfold dfA at hp
   split at hp
   .rename_i g' cap hv
    rw [hv]
    split at hp
    .split at hp
     .rename_i hcall
      cases hp
      simp only [hcall]
     .cases hp
    .cases hp
   .cases hp
  .cases h
 |panic x=>
  unfold ac_ at h;rw [ho]at h
  left;unfold aE_;rw [ho];simp only
  unfold OC.run at h
  simp only at h
  split at h
  .rename_i v hv
   cases h
   have hv:t7_ (look T x)=some v:=hv
   unfold t7_ at hv
   split at hv
   .rename_i t a ht;cases hv;rw [ht]
   .cases hv
  .cases h
 |_=>unfold ac_ at h;rw [ho]at h;cases h
end
end Go.Sx
