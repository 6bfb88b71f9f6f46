/-
  What operations give at values of known forms; a call of symbols, by its tree.
-/
import Derived.Test.YtjconanknjgpnaaGreatSyP
set_option linter.unusedVariables false
set_option linter.unusedSimpArgs false
namespace Go.Sx
theorem vS_ (Y:Sy) (n:Nat) (a:AV) (i:Nat):(Y.put n a).v i=if i=n then some a else Y.v i:=rfl
section
variable (P:Program) (t:TypeId) (cx cy:Bool) (k:IntKind) (a b:Int)
theorem kix_self:Nat.beq (kix k) (kix k)=true:=Nat.beq_refl _
theorem c1_ {op:BinOp} {r:AV} (h:mj_ op k a b=some r):(XOp.bin op t cx cy).run P [.int k a,.int k b]=some r:=by
 show cU_ P op k a k b=some r
 unfold cU_
 rw [kix_self,h]
theorem run_lss:(XOp.bin .lss t cx cy).run P [.int k a,.int k b]=some (.bool (decide (a<b))):=c1_ P t cx cy k a b (by show some (AV.bool (ltI a b))=_;rw [iT_])
theorem run_gtr:(XOp.bin .gtr t cx cy).run P [.int k a,.int k b]=some (.bool (decide (b<a))):=c1_ P t cx cy k a b (by show some (AV.bool (ltI b a))=_;rw [iT_])
theorem run_leq:(XOp.bin .leq t cx cy).run P [.int k a,.int k b]=some (.bool (decide (a<=b))):=c1_ P t cx cy k a b (by show some (AV.bool (not (ltI b a)))=_;rw [iT_,g2_])
theorem run_geq:(XOp.bin .geq t cx cy).run P [.int k a,.int k b]=some (.bool (decide (b<=a))):=c1_ P t cx cy k a b (by show some (AV.bool (not (ltI a b)))=_;rw [iT_,g2_])
theorem run_eql:(XOp.bin .eql t cx cy).run P [.int k a,.int k b]=some (.bool (decide (a=b))):=c1_ P t cx cy k a b (by show some (AV.bool (eqI a b))=_;rw [fJ_];rfl)
theorem run_neq:(XOp.bin .neq t cx cy).run P [.int k a,.int k b]=some (.bool (!decide (a=b))):=c1_ P t cx cy k a b (by show some (AV.bool (not (eqI a b)))=_;rw [fJ_];rfl)
theorem run_add:(XOp.bin .add t cx cy).run P [.int k a,.int k b]=some (.int k (k.wrap (a+b))):=c1_ P t cx cy k a b (by show some (mkI k (d1_ k (Int.add a b)))=_;rw [dj_,cG_];rfl)
theorem run_sub:(XOp.bin .sub t cx cy).run P [.int k a,.int k b]=some (.int k (k.wrap (a-b))):=c1_ P t cx cy k a b (by show some (mkI k (d1_ k (Int.sub a b)))=_;rw [dj_,cG_];rfl)
theorem run_mul:(XOp.bin .mul t cx cy).run P [.int k a,.int k b]=some (.int k (k.wrap (a*b))):=c1_ P t cx cy k a b (by show some (mkI k (d1_ k (Int.mul a b)))=_;rw [dj_,cG_];rfl)
theorem vs_ (x:Bool):(XOp.un .not).run P [.bool x]=some (.bool (!x)):=rfl
variable {P t}
end
theorem vM_ {x:Int} (h1: -9223372036854775808<=x) (h2:x<=9223372036854775807):IntKind.i64.wrap x=x:=by
 simp [IntKind.wrap,IntKind.bits,IntKind.signed];omega
variable [Gl]
theorem vh_ {P:Program} (hm:P.follows .mixedOrders=true) (ho:kQ_ P) {f:FuncId} {ft:FT} {vs:List AV} {R:Nat->List AV->Prop} {c:VC} {n:Nat} {t:VT} (hlen:vs.length=ft.ent.nv) (hk:∀Y,Fresh Y 64->KnownF P c.fc (Y.puts 64 vs))
  (ht:u9_ P n c f ft=t) (h:∀Y,Fresh Y 64->Gl.gt Y.v->VOK P (QF R) [] (Y.puts 64 vs) t):CF P f ft vs R:=
 ⟨hlen,λY hf B pr E w us hy hg hr hcon=>by
   obtain ⟨p1,_,_,p4⟩:=hf.puts vs
   rw [hlen]at p1
   have hgt:Gl.gt Y.v:=Gl.gtm _ _ (λi hi=>by rw [hy.v];exact (p4 i hi).symm) hg.2
   exact td_ (c:=c) (fuel:=n) hm (dc_ hm ho n) ⟨p1,hk Y hf⟩ (by rw [ht];exact h Y hf hgt) B pr E w us hy hg hr hcon⟩
end Go.Sx
