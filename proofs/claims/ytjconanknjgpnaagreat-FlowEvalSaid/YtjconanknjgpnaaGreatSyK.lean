/-
  What operations give at values of known forms; a call of symbols, by its tree.
-/
import Derived.Test.YtjconanknjgpnaaGreatSyP
set_option linter.unusedVariables false
set_option linter.unusedSimpArgs false
namespace Go.Sx
theorem put_v (Y:Sy) (n:Nat) (a:AV) (i:Nat):(Y.put n a).v i=if i=n then some a else Y.v i:=rfl
section
variable (P:Program) (t:TypeId) (cx cy:Bool) (k:IntKind) (a b:Int)
theorem kix_self:Nat.beq (kix k) (kix k)=true:=Nat.beq_refl _
theorem run_int {op:BinOp} {r:AV} (h:evInt op k a b=some r):(XOp.bin op t cx cy).run P [.int k a,.int k b]=some r:=by
 show evIntOr P op k a k b=some r
 unfold evIntOr
 rw [kix_self,h]
theorem run_lss:(XOp.bin .lss t cx cy).run P [.int k a,.int k b]=some (.bool (decide (a<b))):=run_int P t cx cy k a b (by show some (AV.bool (ltI a b))=_;rw [ltI_eq])
theorem run_gtr:(XOp.bin .gtr t cx cy).run P [.int k a,.int k b]=some (.bool (decide (b<a))):=run_int P t cx cy k a b (by show some (AV.bool (ltI b a))=_;rw [ltI_eq])
theorem run_leq:(XOp.bin .leq t cx cy).run P [.int k a,.int k b]=some (.bool (decide (a<=b))):=run_int P t cx cy k a b (by show some (AV.bool (not (ltI b a)))=_;rw [ltI_eq,not_lt_eq])
theorem run_geq:(XOp.bin .geq t cx cy).run P [.int k a,.int k b]=some (.bool (decide (b<=a))):=run_int P t cx cy k a b (by show some (AV.bool (not (ltI a b)))=_;rw [ltI_eq,not_lt_eq])
theorem run_eql:(XOp.bin .eql t cx cy).run P [.int k a,.int k b]=some (.bool (decide (a=b))):=run_int P t cx cy k a b (by show some (AV.bool (eqI a b))=_;rw [eqI_eq];rfl)
theorem run_neq:(XOp.bin .neq t cx cy).run P [.int k a,.int k b]=some (.bool (!decide (a=b))):=run_int P t cx cy k a b (by show some (AV.bool (not (eqI a b)))=_;rw [eqI_eq];rfl)
theorem run_add:(XOp.bin .add t cx cy).run P [.int k a,.int k b]=some (.int k (k.wrap (a+b))):=run_int P t cx cy k a b (by show some (mkI k (wrapF k (Int.add a b)))=_;rw [mkI_eq,wrapF_eq];rfl)
theorem run_sub:(XOp.bin .sub t cx cy).run P [.int k a,.int k b]=some (.int k (k.wrap (a-b))):=run_int P t cx cy k a b (by show some (mkI k (wrapF k (Int.sub a b)))=_;rw [mkI_eq,wrapF_eq];rfl)
theorem run_mul:(XOp.bin .mul t cx cy).run P [.int k a,.int k b]=some (.int k (k.wrap (a*b))):=run_int P t cx cy k a b (by show some (mkI k (wrapF k (Int.mul a b)))=_;rw [mkI_eq,wrapF_eq];rfl)
variable {P t}
end
theorem wrap64 {x:Int} (h1: -9223372036854775808<=x) (h2:x<=9223372036854775807):IntKind.i64.wrap x=x:=by
 simp [IntKind.wrap,IntKind.bits,IntKind.signed];omega
variable [Gl]
theorem cf_tree {P:Program} (hm:P.follows .mixedOrders=true) (ho:OvOk P) {f:FuncId} {ft:FT} {vs:List AV} {R:Nat->List AV->Prop} {c:VC} {n:Nat} {t:VT} (hlen:vs.length=ft.ent.nv) (hk:∀Y,Fresh Y 64->KnownF P c.fc (Y.puts 64 vs))
  (ht:vFnF P n c f ft=t) (h:∀Y,Fresh Y 64->Gl.gt Y.v->VOK P (QF R) [] (Y.puts 64 vs) t):CF P f ft vs R:=
 ⟨hlen,λY hf B pr E w us hy hg hr hcon=>by
   obtain ⟨p1,_,_,p4⟩:=hf.puts vs
   rw [hlen]at p1
   have hgt:Gl.gt Y.v:=Gl.gtm _ _ (λi hi=>by rw [hy.v];exact (p4 i hi).symm) hg.2
   exact vFnF_ok (c:=c) (fuel:=n) hm (callN_ok hm ho n) ⟨p1,hk Y hf⟩ (by rw [ht];exact h Y hf hgt) B pr E w us hy hg hr hcon⟩
end Go.Sx
