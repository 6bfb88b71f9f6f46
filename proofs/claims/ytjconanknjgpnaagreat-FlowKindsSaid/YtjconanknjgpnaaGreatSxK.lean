/-
  The evaluator of code: a staged operation is the operation.
-/
import Derived.Test.YtjconanknjgpnaaGreatSxJ
set_option linter.unusedVariables false
set_option linter.unusedSimpArgs false
namespace Go.Sx
variable [Gl]
def qc_ (P:Program) (T:Tm) (H:AHeap) (o:Oper) (r:ORes):Prop:=ac_ P (look T) H o=some r\/fL_ P (look T) H o=some r
omit [Gl]in
theorem d0_ {P:Program} {ρ:Operand->AV} {o:Oper} {a:AV} (h:ed_ P ρ o=some a) (H:AHeap):fL_ P ρ H o=some (.val a H):=by
 unfold ed_ at h
 split at h
 .rename_i a' H' h'
  cases h
  unfold fL_ at h'⊢
  split at h'
  .split at h'<;>(first|(cases h';done)|skip)<;>(cases h';rfl)
  .cases h'
 .cases h
theorem kn_ {P:Program} {T:Tm} {H:AHeap} {o:Oper} {x:Option AV} {a:AV} (h:jw_ P T o x=some a) (hx:∀b,x=some b->ac_ P (look T) H o=some (.val b H)):qc_ P T H o (.val a H):=by
 unfold jw_ at h
 split at h
 .cases h;exact .inl (hx _ rfl)
 .exact .inr (d0_ h H)
theorem fe_ (T:Tm) (x:Operand):(aw_ x).f T=look T x:=rfl
section
variable {P:Program} {T:Tm} {H:AHeap}
omit [Gl]in
theorem cq_ {f:Tm->Option AV} {r:ORes} (h:(OC.po f).run T H=some r):∃a,f T=some a/\r=.val a H:=by
 unfold OC.run at h
 simp only at h
 split at h
 .rename_i a ha;cases h;exact ⟨a,ha,rfl⟩
 .cases h
omit [Gl]in
theorem ix_ {f:Tm->AHeap->Option AV} {r:ORes} (h:(OC.ho f).run T H=some r):∃a,f T H=some a/\r=.val a H:=by
 unfold OC.run at h
 simp only at h
 split at h
 .rename_i a ha;cases h;exact ⟨a,ha,rfl⟩
 .cases h
omit [Gl]in
theorem dM_ {f:Tm->AHeap->Option (AV×AHeap)} {r:ORes} (h:(OC.hm f).run T H=some r):∃p,f T H=some p/\r=.val p.1 p.2:=by
 unfold OC.run at h
 simp only at h
 split at h
 .rename_i a H' ha;cases h;exact ⟨(a,H'),ha,rfl⟩
 .cases h
omit [Gl]in
theorem nD_ {f:Tm->Option (FuncId×List AV)} {r:ORes} (h:(OC.cl f).run T H=some r):∃p,f T=some p/\r=.call p.1 p.2:=by
 unfold OC.run at h
 simp only at h
 split at h
 .rename_i a H' ha;cases h;exact ⟨(a,H'),ha,rfl⟩
 .cases h
omit [Gl]in
theorem yZ_ {f:Tm->Option (FuncId×List AV)} {r:ORes} (h:(OC.df f).run T H=some r):∃p,f T=some p/\r=.dfr p.1 p.2:=by
 unfold OC.run at h
 simp only at h
 split at h
 .rename_i a H' ha;cases h;exact ⟨(a,H'),ha,rfl⟩
 .cases h
omit [Gl]in
theorem b3_ {x:Option AV} {a:AV} (h:x=some a):oV H x=some (.val a H):=by subst h;rfl
omit [Gl]in
theorem b4_ {x:Option (AV×AHeap)} {p:AV×AHeap} (h:x=some p):oP x=some (.val p.1 p.2):=by subst h;rfl
omit [Gl]in
theorem wU_ {op:BinOp} {t:TypeId} {cx cy:Bool} {g:IntKind->Int->Int->AV} (hg:∀k a b,pS_ op k a b=some (g k a b)) (x y:AV):
  k7_ g (λx y=>bl_ P op t cx cy x y) x y=bl_ P op t cx cy x y:=by
 unfold k7_
 split
 .split
  .split
   .rename_i hk
    unfold bl_ di_
    simp only [hk,hg]
   .rfl
  .rfl
 .rfl
omit [Gl]in
theorem wW_ (op:BinOp) (t:TypeId) (cx cy:Bool) (x y:AV):zq_ P op t cx cy x y=bl_ P op t cx cy x y:=by
 cases op<;>first|rfl|exact wU_ (λ_ _ _=>rfl) x y
theorem qM_ {o:Oper} {t:TypeId} {a:Operand} (ho:o.op=.load t a) {r:ORes} (h:(j_ P o).run T H=some r):qc_ P T H o r:=by
 unfold j_ at h
 rw [ho]at h
 simp only at h
 left
 unfold ac_
 rw [ho]
 simp only
 unfold aD_
 split at h
 .cases h
 .rename_i d hd
  rw [hd]
  simp only
  split at h
  .rename_i hag
   split at h
   .cases h
   .rename_i i hi
    obtain ⟨v,hv,rfl⟩:=ix_ h
    rw [hi]
    simp only
    unfold uF_ at hv
    rw [←fe_]
    split at hv
    .rename_i l hl;cases hv
     simp only [hag,hl];rfl
    .cases hv
  .rename_i hag
   obtain ⟨v,hv,rfl⟩:=ix_ h
   rw [vU_]at hv
   rw [←fe_]
   unfold uw_ at hv
   split at hv
   .rename_i c hc;cases hv;simp only [hag,hc];rfl
   .cases hv
theorem qa_ {o:Oper} {c:Call} (ho:o.op=.call c) {r:ORes} (h:(j_ P o).run T H=some r):qc_ P T H o r:=by
 unfold j_ at h
 rw [ho]at h
 simp only at h
 unfold yk_ at h
 have hargs:=hq_ T c.args.toList
 split at h
 .rename_i f hf
  split at h
  rename_i g hgl
  rw [hgl]at hargs
  simp only at hargs
  have gen:∀p,fnA P (look T f) (g T)=some p->ac_ P (look T) H o=some (.call p.1 p.2):=by
   intro p hp
   unfold ac_ eZ_
   rw [ho]
   simp only [hf]
   unfold fnA at hp
   split at hp
   .rename_i g' cap hv
    split at hp
    .rename_i hcall
     cases hp
     rw [hv]
     simp only [hcall,hargs]
    .cases hp
   .cases hp
  cases f with
  |func id=>
   simp only at h
   split at h
   .rename_i hcall
    obtain ⟨p,hp,rfl⟩:=nD_ h
    cases hp
    left
    refine gen (id,g T) ?_
    have:look T (.func id)=.fn id []:=rfl
    rw [this]
    unfold fnA
    simp only [hcall,nN_,List.append_nil]
   .obtain ⟨a,ha,rfl⟩:=cq_ h
    exact .inr (d0_ ha H)
  |tmp t=>obtain ⟨p,hp,rfl⟩:=nD_ h;exact .inl (gen p hp)
  |const v=>obtain ⟨p,hp,rfl⟩:=nD_ h;exact .inl (gen p hp)
  |global v=>obtain ⟨p,hp,rfl⟩:=nD_ h;exact .inl (gen p hp)
 .rename_i b hb
  split at h
  .split at h
   .rename_i x t h1 h2
    obtain ⟨a,ha,rfl⟩:=ix_ h
    left
    unfold ac_ eZ_
    rw [ho]
    simp only [hb,h1,h2]
    exact b3_ ha
   .cases h
  .split at h
   .rename_i s x t tx h1 h2
    obtain ⟨p,hp,rfl⟩:=dM_ h
    left
    unfold ac_ eZ_
    rw [ho]
    simp only [hb,h1,h2]
    exact b4_ hp
   .cases h
  .split at h
   .rename_i d s t tx h1 h2
    obtain ⟨p,hp,rfl⟩:=dM_ h
    left
    unfold ac_ eZ_
    rw [ho]
    simp only [hb,h1,h2]
    exact b4_ hp
   .cases h
  .split at h
   .rename_i h1
    cases h
    left
    unfold ac_ eZ_
    rw [ho]
    simp only [hb,h1]
   .cases h
  .obtain ⟨a,ha,rfl⟩:=cq_ h
   exact .inr (d0_ ha H)
 .cases h
theorem pQ_ {o:Oper} {t:TypeId} {x:Operand} {lo hi mx:Option Operand} (ho:o.op=.slice t x lo hi mx) {r:ORes} (h:(j_ P o).run T H=some r):qc_ P T H o r:=by
 unfold j_ at h
 rw [ho]at h
 simp only at h
 left
 unfold ac_
 rw [ho]
 simp only
 cases mx with
 |some _=>cases h
 |none=>
  cases lo<;>cases hi<;>simp only at h<;>(obtain ⟨a,ha,rfl⟩:=ix_ h;exact b3_ ha)
theorem jd_ {o:Oper} {s:TypeId} {x:Operand} {f:Nat} (ho:o.op=.fieldAddr s x f) {r:ORes} (h:(j_ P o).run T H=some r):qc_ P T H o r:=by
 unfold j_ at h
 rw [ho]at h
 simp only at h
 left
 unfold ac_ b0_
 rw [ho]
 simp only
 split at h
 .rename_i fields hd
  rw [hd]
  simp only
  split at h
  .rename_i fl hfl
   rw [hfl]
   simp only
   split at h
   .rename_i i hi
    rw [hi]
    simp only
    split at h
    .cases h
    .rename_i n hn
     rw [hn]
     simp only
     obtain ⟨a,ha,rfl⟩:=cq_ h
     rw [fe_]at ha
     unfold vV_ at ha
     split at ha
     .rename_i id o' hv;cases ha;rw [hv];rfl
     .rename_i cs hv
      split at ha
      .rename_i hb;cases ha;rw [hv];simp only [hb];rfl
      .cases ha
     .cases ha
   .cases h
  .cases h
 .cases h
theorem jc_ {o:Oper} {t:TypeId} {x ix:Operand} (ho:o.op=.indexAddr t x ix) {r:ORes} (h:(j_ P o).run T H=some r):qc_ P T H o r:=by
 unfold j_ at h
 rw [ho]at h
 simp only at h
 left
 unfold ac_
 rw [ho]
 simp only
 split at h
 .rename_i e hd
  split at h
  .rename_i ti hti
   obtain ⟨a,ha,rfl⟩:=cq_ h
   rw [fe_,fe_]at ha
   refine b3_ ?_
   unfold as_
   unfold x5_ at ha
   split at ha
   .rename_i k i hi
    rw [hi]
    simp only [hd,hti]
    split at ha
    .rename_i hv
     rw [hv]
     simp only
     split at ha
     .rename_i n hn;cases ha;rw [hn]
     .cases ha
    .rename_i hv
     rw [hv]
     simp only
     split at ha
     .rename_i n hn;cases ha;rw [hn]
     .cases ha
    .cases ha
   .cases ha
  .cases h
 .obtain ⟨a,ha,rfl⟩:=cq_ h
  exact b3_ ha
theorem uq_ {o:Oper} {r:ORes} (h:(j_ P o).run T H=some r):qc_ P T H o r:=by
 cases ho:o.op with
 |load t a=>exact qM_ ho h
 |call c=>exact qa_ ho h
 |slice t x lo hi mx=>exact pQ_ ho h
 |fieldAddr s x f=>exact jd_ ho h
 |indexAddr t x ix=>exact jc_ ho h
 |move x=>unfold j_ at h;rw [ho]at h;cases h;left;unfold ac_;rw [ho];rfl
 |assign x=>unfold j_ at h;rw [ho]at h;cases h;left;unfold ac_;rw [ho];rfl
 |pick c a b=>
  unfold j_ at h;rw [ho]at h
  obtain ⟨v,hv,rfl⟩:=cq_ h
  left;unfold ac_;rw [ho];simp only
  have hv:rn_ (look T c) (look T a) (look T b)=some v:=hv
  unfold rn_ at hv
  split at hv
  .rename_i t ht
   rw [ht]
   split at hv<;>(cases hv;rfl)
  .cases hv
 |alloc t=>unfold j_ at h;rw [ho]at h;obtain ⟨p,hp,rfl⟩:=dM_ h;left;unfold ac_;rw [ho];exact b4_ hp
 |box _ x=>unfold j_ at h;rw [ho]at h;obtain ⟨p,hp,rfl⟩:=dM_ h;left;unfold ac_;rw [ho];exact b4_ hp
 |build t parts=>
  unfold j_ at h;rw [ho]at h
  obtain ⟨v,hv,rfl⟩:=cq_ h
  left;unfold ac_;rw [ho];simp only
  have hv:g3_ P t (cX_ (look T) parts.toList)=some v:=by rw [←hW_ T parts.toList];exact hv
  exact b3_ hv
 |buildSlice t n parts=>
  unfold j_ at h;rw [ho]at h
  obtain ⟨v,hv,rfl⟩:=dM_ h
  left;unfold ac_;rw [ho];simp only
  have hv:a3_ P H t n (cX_ (look T) parts.toList)=some v:=by rw [←hW_ T parts.toList];exact hv
  exact b4_ hv
 |store t a x=>unfold j_ at h;rw [ho]at h;obtain ⟨p,hp,rfl⟩:=dM_ h;left;unfold ac_;rw [ho];exact b4_ hp
 |nilCheck x=>
  unfold j_ at h;rw [ho]at h
  obtain ⟨v,hv,rfl⟩:=cq_ h
  left;unfold ac_;rw [ho];simp only
  have hv:yI_ (look T x)=some v:=hv
  unfold yI_ at hv
  split at hv
  .rename_i ht;rw [ht];cases hv;rfl
  .rename_i ht;rw [ht];cases hv;rfl
  .cases hv
 |binOp op t x y yt=>
  unfold j_ at h;rw [ho]at h
  obtain ⟨v,hv,rfl⟩:=cq_ h
  left;unfold ac_;rw [ho];simp only
  have hv:zq_ P op t (a4_ x) (a4_ y) (look T x) (look T y)=some v:=hv
  rw [wW_]at hv
  exact b3_ hv
 |unOp op t x=>
  unfold j_ at h;rw [ho]at h
  obtain ⟨v,hv,rfl⟩:=cq_ h
  refine kn_ hv λb hb=>?_
  unfold ac_;rw [ho];exact b3_ hb
 |convert s d x=>
  unfold j_ at h;rw [ho]at h
  simp only at h
  split at h
  .obtain ⟨v,hv,rfl⟩:=dM_ h
   left;unfold ac_;rw [ho];exact b4_ hv
  .obtain ⟨v,hv,rfl⟩:=ix_ h
   split at hv
   .rename_i a ha
    cases hv
    left;unfold ac_;rw [ho]
    refine b4_ (p:=(v,H)) ?_
    unfold f2_
    have ha:b7_ P H s d (look T x)=some v:=ha
    rw [ha]
   .exact .inr (d0_ hv H)
 |index t x i=>
  unfold j_ at h;rw [ho]at h
  obtain ⟨v,hv,rfl⟩:=cq_ h
  refine kn_ hv λb hb=>?_
  unfold ac_;rw [ho];exact b3_ hb
 |makeInterface t x=>
  unfold j_ at h;rw [ho]at h
  simp only at h
  split at h
  .rename_i hc
   cases h
   left;unfold ac_;rw [ho];simp only [hc];rfl
  .cases h
 |makeFunc fn first captured=>
  unfold j_ at h;rw [ho]at h
  simp only at h
  split at h
  .split at h
   .rename_i f _ hf
    cases h
    left;unfold ac_;rw [ho];simp only [hf]
    rw [←hq_ T captured.toList]
   .cases h
  .cases h
 |makeMap t r'=>
  unfold j_ at h;rw [ho]at h
  cases r' with
  |none=>obtain ⟨p,hp,rfl⟩:=dM_ h;left;unfold ac_;rw [ho];exact b4_ hp
  |some _=>cases h
 |makeSlice t l c=>unfold j_ at h;rw [ho]at h;obtain ⟨p,hp,rfl⟩:=dM_ h;left;unfold ac_;rw [ho];exact b4_ hp
 |field s x f=>unfold j_ at h;rw [ho]at h;obtain ⟨p,hp,rfl⟩:=cq_ h;left;unfold ac_;rw [ho];exact b3_ hp
 |lookup t x ix ok=>unfold j_ at h;rw [ho]at h;obtain ⟨p,hp,rfl⟩:=ix_ h;left;unfold ac_;rw [ho];exact b3_ hp
 |mapUpdate t m k x=>unfold j_ at h;rw [ho]at h;obtain ⟨p,hp,rfl⟩:=dM_ h;left;unfold ac_;rw [ho];exact b4_ hp
 |insert t m k x=>unfold j_ at h;rw [ho]at h;obtain ⟨p,hp,rfl⟩:=dM_ h;left;unfold ac_;rw [ho];exact b4_ hp
 |typeAssert x xt asserted ok=>unfold j_ at h;rw [ho]at h;obtain ⟨p,hp,rfl⟩:=cq_ h;left;unfold ac_;rw [ho];exact b3_ hp
 |extract t ix=>unfold j_ at h;rw [ho]at h;obtain ⟨p,hp,rfl⟩:=cq_ h;left;unfold ac_;rw [ho];exact b3_ hp
 |defer c=>
  unfold j_ at h;rw [ho]at h
  simp only at h
  split at h
  .rename_i x hx
   obtain ⟨p,hp,rfl⟩:=yZ_ h
   left;unfold ac_ ny_;rw [ho];simp only [hx]
   have hp:dfA P (look T x) (jM_ (look T) c.args.toList)=some p:=by rw [←hq_ T c.args.toList];exact hp
   unfold dfA at hp
   split at hp
   .rename_i g' cap hv
    rw [hv]
    split at hp
    .split at hp
     .rename_i hcall
      cases hp
      simp only [hcall]
     .cases hp
    .cases hp
   .cases hp
  .cases h
 |panic x=>
  unfold j_ at h;rw [ho]at h
  left;unfold ac_;rw [ho];simp only
  unfold OC.run at h
  simp only at h
  split at h
  .rename_i v hv
   cases h
   have hv:zh_ (look T x)=some v:=hv
   unfold zh_ at hv
   split at hv
   .rename_i t a ht;cases hv;rw [ht]
   .cases hv
  .cases h
 |_=>unfold j_ at h;rw [ho]at h;cases h
end
end Go.Sx
