/-
  The evaluator of code: a staged operation is the operation.
-/
import Derived.Test.YtjconanknjgpnaaGreatSxJ
set_option linter.unusedVariables false
set_option linter.unusedSimpArgs false
namespace Go.Sx
variable [Gl]
def StOk (P:Program) (T:Tm) (H:AHeap) (o:Oper) (r:ORes):Prop:=evOp1 P (look T) H o=some r\/evPlain P (look T) H o=some r
omit [Gl]in
theorem evPlain1_eq {P:Program} {ρ:Operand->AV} {o:Oper} {a:AV} (h:evPlain1 P ρ o=some a) (H:AHeap):evPlain P ρ H o=some (.val a H):=by
 unfold evPlain1 at h
 split at h
 ·rename_i a' H' h'
  cases h
  unfold evPlain at h'⊢
  split at h'
  ·split at h'<;>(first|(cases h';done)|skip)<;>(cases h';rfl)
  ·cases h'
 ·cases h
theorem orPlain_ok {P:Program} {T:Tm} {H:AHeap} {o:Oper} {x:Option AV} {a:AV} (h:orPlain P T o x=some a) (hx:∀b,x=some b->evOp1 P (look T) H o=some (.val b H)):StOk P T H o (.val a H):=by
 unfold orPlain at h
 split at h
 ·cases h;exact .inl (hx _ rfl)
 ·exact .inr (evPlain1_eq h H)
theorem look_arg (T:Tm) (x:Operand):(argC x).f T=look T x:=rfl
section
variable {P:Program} {T:Tm} {H:AHeap}
omit [Gl]in
theorem run_po {f:Tm->Option AV} {r:ORes} (h:(OC.po f).run T H=some r):∃a,f T=some a/\r=.val a H:=by
 unfold OC.run at h
 simp only at h
 split at h
 ·rename_i a ha;cases h;exact ⟨a,ha,rfl⟩
 ·cases h
omit [Gl]in
theorem run_ho {f:Tm->AHeap->Option AV} {r:ORes} (h:(OC.ho f).run T H=some r):∃a,f T H=some a/\r=.val a H:=by
 unfold OC.run at h
 simp only at h
 split at h
 ·rename_i a ha;cases h;exact ⟨a,ha,rfl⟩
 ·cases h
omit [Gl]in
theorem run_hm {f:Tm->AHeap->Option (AV×AHeap)} {r:ORes} (h:(OC.hm f).run T H=some r):∃p,f T H=some p/\r=.val p.1 p.2:=by
 unfold OC.run at h
 simp only at h
 split at h
 ·rename_i a H' ha;cases h;exact ⟨(a,H'),ha,rfl⟩
 ·cases h
omit [Gl]in
theorem run_cl {f:Tm->Option (FuncId×List AV)} {r:ORes} (h:(OC.cl f).run T H=some r):∃p,f T=some p/\r=.call p.1 p.2:=by
 unfold OC.run at h
 simp only at h
 split at h
 ·rename_i a H' ha;cases h;exact ⟨(a,H'),ha,rfl⟩
 ·cases h
omit [Gl]in
theorem run_df {f:Tm->Option (FuncId×List AV)} {r:ORes} (h:(OC.df f).run T H=some r):∃p,f T=some p/\r=.dfr p.1 p.2:=by
 unfold OC.run at h
 simp only at h
 split at h
 ·rename_i a H' ha;cases h;exact ⟨(a,H'),ha,rfl⟩
 ·cases h
omit [Gl]in
theorem oV_some {x:Option AV} {a:AV} (h:x=some a):oV H x=some (.val a H):=by subst h;rfl
omit [Gl]in
theorem oP_some {x:Option (AV×AHeap)} {p:AV×AHeap} (h:x=some p):oP x=some (.val p.1 p.2):=by subst h;rfl
omit [Gl]in
theorem binI_eq {op:BinOp} {t:TypeId} {cx cy:Bool} {g:IntKind->Int->Int->AV} (hg:∀k a b,evInt op k a b=some (g k a b)) (x y:AV):
  binI g (λx y=>evBin P op t cx cy x y) x y=evBin P op t cx cy x y:=by
 unfold binI
 split
 ·split
  ·split
   ·rename_i hk
    unfold evBin evIntOr
    simp only [hk,hg]
   ·rfl
  ·rfl
 ·rfl
omit [Gl]in
theorem binG_eq (op:BinOp) (t:TypeId) (cx cy:Bool) (x y:AV):binG P op t cx cy x y=evBin P op t cx cy x y:=by
 cases op<;>first|rfl|exact binI_eq (λ_ _ _=>rfl) x y
theorem stage_load {o:Oper} {t:TypeId} {a:Operand} (ho:o.op=.load t a) {r:ORes} (h:(stage P o).run T H=some r):StOk P T H o r:=by
 unfold stage at h
 rw [ho]at h
 simp only at h
 left
 unfold evOp1
 rw [ho]
 simp only
 unfold evLoad
 split at h
 ·cases h
 ·rename_i d hd
  rw [hd]
  simp only
  split at h
  ·rename_i hag
   split at h
   ·cases h
   ·rename_i i hi
    obtain ⟨v,hv,rfl⟩:=run_ho h
    rw [hi]
    simp only
    unfold loadAg at hv
    rw [←look_arg]
    split at hv
    ·rename_i l hl;cases hv
     simp only [hag,hl];rfl
    ·cases hv
  ·rename_i hag
   obtain ⟨v,hv,rfl⟩:=run_ho h
   rw [load1_eq]at hv
   rw [←look_arg]
   unfold oneOf at hv
   split at hv
   ·rename_i c hc;cases hv;simp only [hag,hc];rfl
   ·cases hv
theorem stage_call {o:Oper} {c:Call} (ho:o.op=.call c) {r:ORes} (h:(stage P o).run T H=some r):StOk P T H o r:=by
 unfold stage at h
 rw [ho]at h
 simp only at h
 unfold callC at h
 have hargs:=argsC_eq T c.args.toList
 split at h
 ·rename_i f hf
  split at h
  rename_i g hgl
  rw [hgl]at hargs
  simp only at hargs
  have gen:∀p,fnA P (look T f) (g T)=some p->evOp1 P (look T) H o=some (.call p.1 p.2):=by
   intro p hp
   unfold evOp1 evCall
   rw [ho]
   simp only [hf]
   unfold fnA at hp
   split at hp
   ·rename_i g' cap hv
    split at hp
    ·rename_i hcall
     cases hp
     rw [hv]
     simp only [hcall,hargs]
    ·cases hp
   ·cases hp
  cases f with
  |func id=>
   simp only at h
   split at h
   ·rename_i hcall
    obtain ⟨p,hp,rfl⟩:=run_cl h
    cases hp
    left
    refine gen (id,g T) ?_
    have:look T (.func id)=.fn id []:=rfl
    rw [this]
    unfold fnA
    simp only [hcall,appA_eq,List.append_nil]
   ·obtain ⟨a,ha,rfl⟩:=run_po h
    exact .inr (evPlain1_eq ha H)
  |tmp t=>obtain ⟨p,hp,rfl⟩:=run_cl h;exact .inl (gen p hp)
  |const v=>obtain ⟨p,hp,rfl⟩:=run_cl h;exact .inl (gen p hp)
  |global v=>obtain ⟨p,hp,rfl⟩:=run_cl h;exact .inl (gen p hp)
 ·rename_i b hb
  split at h
  ·split at h
   ·rename_i x t h1 h2
    obtain ⟨a,ha,rfl⟩:=run_ho h
    left
    unfold evOp1 evCall
    rw [ho]
    simp only [hb,h1,h2]
    exact oV_some ha
   ·cases h
  ·split at h
   ·rename_i s x t tx h1 h2
    obtain ⟨p,hp,rfl⟩:=run_hm h
    left
    unfold evOp1 evCall
    rw [ho]
    simp only [hb,h1,h2]
    exact oP_some hp
   ·cases h
  ·split at h
   ·rename_i d s t tx h1 h2
    obtain ⟨p,hp,rfl⟩:=run_hm h
    left
    unfold evOp1 evCall
    rw [ho]
    simp only [hb,h1,h2]
    exact oP_some hp
   ·cases h
  ·split at h
   ·rename_i h1
    cases h
    left
    unfold evOp1 evCall
    rw [ho]
    simp only [hb,h1]
   ·cases h
  ·obtain ⟨a,ha,rfl⟩:=run_po h
   exact .inr (evPlain1_eq ha H)
 ·cases h
theorem stage_slice {o:Oper} {t:TypeId} {x:Operand} {lo hi mx:Option Operand} (ho:o.op=.slice t x lo hi mx) {r:ORes} (h:(stage P o).run T H=some r):StOk P T H o r:=by
 unfold stage at h
 rw [ho]at h
 simp only at h
 left
 unfold evOp1
 rw [ho]
 simp only
 cases mx with
 |some _=>cases h
 |none=>
  cases lo<;>cases hi<;>simp only at h<;>(obtain ⟨a,ha,rfl⟩:=run_ho h;exact oV_some ha)
theorem stage_fieldAddr {o:Oper} {s:TypeId} {x:Operand} {f:Nat} (ho:o.op=.fieldAddr s x f) {r:ORes} (h:(stage P o).run T H=some r):StOk P T H o r:=by
 unfold stage at h
 rw [ho]at h
 simp only at h
 left
 unfold evOp1 evField
 rw [ho]
 simp only
 split at h
 ·rename_i fields hd
  rw [hd]
  simp only
  split at h
  ·rename_i fl hfl
   rw [hfl]
   simp only
   split at h
   ·rename_i i hi
    rw [hi]
    simp only
    split at h
    ·cases h
    ·rename_i n hn
     rw [hn]
     simp only
     obtain ⟨a,ha,rfl⟩:=run_po h
     rw [look_arg]at ha
     unfold addOff at ha
     split at ha
     ·rename_i id o' hv;cases ha;rw [hv];rfl
     ·rename_i cs hv
      split at ha
      ·rename_i hb;cases ha;rw [hv];simp only [hb];rfl
      ·cases ha
     ·cases ha
   ·cases h
  ·cases h
 ·cases h
theorem stage_indexAddr {o:Oper} {t:TypeId} {x ix:Operand} (ho:o.op=.indexAddr t x ix) {r:ORes} (h:(stage P o).run T H=some r):StOk P T H o r:=by
 unfold stage at h
 rw [ho]at h
 simp only at h
 left
 unfold evOp1
 rw [ho]
 simp only
 split at h
 ·rename_i e hd
  split at h
  ·rename_i ti hti
   obtain ⟨a,ha,rfl⟩:=run_po h
   rw [look_arg,look_arg]at ha
   refine oV_some ?_
   unfold evIndexAddr
   unfold idxSl at ha
   split at ha
   ·rename_i k i hi
    rw [hi]
    simp only [hd,hti]
    split at ha
    ·rename_i hv
     rw [hv]
     simp only
     split at ha
     ·rename_i n hn;cases ha;rw [hn]
     ·cases ha
    ·rename_i hv
     rw [hv]
     simp only
     split at ha
     ·rename_i n hn;cases ha;rw [hn]
     ·cases ha
    ·cases ha
   ·cases ha
  ·cases h
 ·obtain ⟨a,ha,rfl⟩:=run_po h
  exact oV_some ha
theorem stage_ok {o:Oper} {r:ORes} (h:(stage P o).run T H=some r):StOk P T H o r:=by
 cases ho:o.op with
 |load t a=>exact stage_load ho h
 |call c=>exact stage_call ho h
 |slice t x lo hi mx=>exact stage_slice ho h
 |fieldAddr s x f=>exact stage_fieldAddr ho h
 |indexAddr t x ix=>exact stage_indexAddr ho h
 |move x=>unfold stage at h;rw [ho]at h;cases h;left;unfold evOp1;rw [ho];rfl
 |assign x=>unfold stage at h;rw [ho]at h;cases h;left;unfold evOp1;rw [ho];rfl
 |pick c a b=>
  unfold stage at h;rw [ho]at h
  obtain ⟨v,hv,rfl⟩:=run_po h
  left;unfold evOp1;rw [ho];simp only
  have hv:pickA (look T c) (look T a) (look T b)=some v:=hv
  unfold pickA at hv
  split at hv
  ·rename_i t ht
   rw [ht]
   split at hv<;>(cases hv;rfl)
  ·cases hv
 |alloc t=>unfold stage at h;rw [ho]at h;obtain ⟨p,hp,rfl⟩:=run_hm h;left;unfold evOp1;rw [ho];exact oP_some hp
 |box _ x=>unfold stage at h;rw [ho]at h;obtain ⟨p,hp,rfl⟩:=run_hm h;left;unfold evOp1;rw [ho];exact oP_some hp
 |build t parts=>
  unfold stage at h;rw [ho]at h
  obtain ⟨v,hv,rfl⟩:=run_po h
  left;unfold evOp1;rw [ho];simp only
  have hv:evBuild P t (partsA (look T) parts.toList)=some v:=by rw [←partsC_eq T parts.toList];exact hv
  exact oV_some hv
 |buildSlice t n parts=>
  unfold stage at h;rw [ho]at h
  obtain ⟨v,hv,rfl⟩:=run_hm h
  left;unfold evOp1;rw [ho];simp only
  have hv:evBuildSlice P H t n (partsA (look T) parts.toList)=some v:=by rw [←partsC_eq T parts.toList];exact hv
  exact oP_some hv
 |store t a x=>unfold stage at h;rw [ho]at h;obtain ⟨p,hp,rfl⟩:=run_hm h;left;unfold evOp1;rw [ho];exact oP_some hp
 |nilCheck x=>
  unfold stage at h;rw [ho]at h
  obtain ⟨v,hv,rfl⟩:=run_po h
  left;unfold evOp1;rw [ho];simp only
  have hv:nilA (look T x)=some v:=hv
  unfold nilA at hv
  split at hv
  ·rename_i ht;rw [ht];cases hv;rfl
  ·rename_i ht;rw [ht];cases hv;rfl
  ·cases hv
 |binOp op t x y yt=>
  unfold stage at h;rw [ho]at h
  obtain ⟨v,hv,rfl⟩:=run_po h
  left;unfold evOp1;rw [ho];simp only
  have hv:binG P op t (isConst x) (isConst y) (look T x) (look T y)=some v:=hv
  rw [binG_eq]at hv
  exact oV_some hv
 |unOp op t x=>
  unfold stage at h;rw [ho]at h
  obtain ⟨v,hv,rfl⟩:=run_po h
  refine orPlain_ok hv λb hb=>?_
  unfold evOp1;rw [ho];exact oV_some hb
 |convert s d x=>
  unfold stage at h;rw [ho]at h
  simp only at h
  split at h
  ·obtain ⟨v,hv,rfl⟩:=run_hm h
   left;unfold evOp1;rw [ho];exact oP_some hv
  ·obtain ⟨v,hv,rfl⟩:=run_ho h
   split at hv
   ·rename_i a ha
    cases hv
    left;unfold evOp1;rw [ho]
    refine oP_some (p:=(v,H)) ?_
    unfold evConvP
    have ha:evConv P H s d (look T x)=some v:=ha
    rw [ha]
   ·exact .inr (evPlain1_eq hv H)
 |index t x i=>
  unfold stage at h;rw [ho]at h
  obtain ⟨v,hv,rfl⟩:=run_po h
  refine orPlain_ok hv λb hb=>?_
  unfold evOp1;rw [ho];exact oV_some hb
 |makeInterface t x=>
  unfold stage at h;rw [ho]at h
  simp only at h
  split at h
  ·rename_i hc
   cases h
   left;unfold evOp1;rw [ho];simp only [hc];rfl
  ·cases h
 |makeFunc fn first captured=>
  unfold stage at h;rw [ho]at h
  simp only at h
  split at h
  ·split at h
   ·rename_i f _ hf
    cases h
    left;unfold evOp1;rw [ho];simp only [hf]
    rw [←argsC_eq T captured.toList]
   ·cases h
  ·cases h
 |makeMap t r'=>
  unfold stage at h;rw [ho]at h
  cases r' with
  |none=>obtain ⟨p,hp,rfl⟩:=run_hm h;left;unfold evOp1;rw [ho];exact oP_some hp
  |some _=>cases h
 |makeSlice t l c=>unfold stage at h;rw [ho]at h;obtain ⟨p,hp,rfl⟩:=run_hm h;left;unfold evOp1;rw [ho];exact oP_some hp
 |field s x f=>unfold stage at h;rw [ho]at h;obtain ⟨p,hp,rfl⟩:=run_po h;left;unfold evOp1;rw [ho];exact oV_some hp
 |lookup t x ix ok=>unfold stage at h;rw [ho]at h;obtain ⟨p,hp,rfl⟩:=run_ho h;left;unfold evOp1;rw [ho];exact oV_some hp
 |mapUpdate t m k x=>unfold stage at h;rw [ho]at h;obtain ⟨p,hp,rfl⟩:=run_hm h;left;unfold evOp1;rw [ho];exact oP_some hp
 |insert t m k x=>unfold stage at h;rw [ho]at h;obtain ⟨p,hp,rfl⟩:=run_hm h;left;unfold evOp1;rw [ho];exact oP_some hp
 |typeAssert x xt asserted ok=>unfold stage at h;rw [ho]at h;obtain ⟨p,hp,rfl⟩:=run_po h;left;unfold evOp1;rw [ho];exact oV_some hp
 |extract t ix=>unfold stage at h;rw [ho]at h;obtain ⟨p,hp,rfl⟩:=run_po h;left;unfold evOp1;rw [ho];exact oV_some hp
 |defer c=>
  unfold stage at h;rw [ho]at h
  simp only at h
  split at h
  ·rename_i x hx
   obtain ⟨p,hp,rfl⟩:=run_df h
   left;unfold evOp1 evDefer;rw [ho];simp only [hx]
   have hp:dfA P (look T x) (mapA (look T) c.args.toList)=some p:=by rw [←argsC_eq T c.args.toList];exact hp
   unfold dfA at hp
   split at hp
   ·rename_i g' cap hv
    rw [hv]
    split at hp
    ·split at hp
     ·rename_i hcall
      cases hp
      simp only [hcall]
     ·cases hp
    ·cases hp
   ·cases hp
  ·cases h
 |panic x=>
  unfold stage at h;rw [ho]at h
  left;unfold evOp1;rw [ho];simp only
  unfold OC.run at h
  simp only at h
  split at h
  ·rename_i v hv
   cases h
   have hv:panA (look T x)=some v:=hv
   unfold panA at hv
   split at hv
   ·rename_i t a ht;cases hv;rw [ht]
   ·cases hv
  ·cases h
 |_=>unfold stage at h;rw [ho]at h;cases h
end
end Go.Sx
