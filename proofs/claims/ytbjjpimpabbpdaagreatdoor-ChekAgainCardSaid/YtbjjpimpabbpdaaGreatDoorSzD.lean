/-
  What is kept of a caller's temporaries while a call is gone into.
-/
import Derived.Test.YtbjjpimpabbpdaaGreatDoorSyI
set_option linter.unusedVariables false
set_option linter.unusedSimpArgs false
namespace Go.Sx
structure Keeps (k n:Nat) (E E':Env):Prop where
 phi:∀id x,id<k->E.φ id=some x->E'.φ id=some x
 sz:∀b m,E.sz b=some m->E'.sz b=some m
 imm:∀b o v,E.imm b o=some v->E'.imm b o=some v
 sy:∀i,i<n->E'.sy i=E.sy i
theorem Keeps.immAt {k n:Nat} {E E':Env} (h:Keeps k n E E') {b o:Nat} {vs:List Value} (hi:ImmAt E b o vs):ImmAt E' b o vs:=λi v hv=>h.imm _ _ _ (hi i v hv)
mutual
theorem ik_ {k n:Nat} {E E':Env} (h:Keeps k n E E'):∀(a:AV) (v:Value),cJ_ k n a=true->Con E a v->Con E' a v
 | .opq,v,_,hc=>by simp [Con]
 | .bool _,v,_,hc=>by simpa [Con]using hc
 | .int _ _,v,_,hc=>by simpa [Con]using hc
 | .flt _ _,v,_,hc=>by simpa [Con]using hc
 | .nan _,v,_,hc=>by simpa [Con]using hc
 | .str _,v,_,hc=>by simpa [Con]using hc
 | .nptr,v,_,hc=>by simpa [Con]using hc
 | .nsl,v,_,hc=>by simpa [Con]using hc
 | .nmap,v,_,hc=>by simpa [Con]using hc
 | .nfn,v,_,hc=>by simpa [Con]using hc
 | .nif,v,_,hc=>by simpa [Con]using hc
 | .ptr id off,v,hk,hc=>by have hk:id<k:=(by simpa [cJ_,Nat.blt_eq]using hk);simp only [Con]at hc⊢;obtain ⟨b,o,h1,h2⟩:=hc;exact ⟨b,o,h.phi _ _ hk h1,h2⟩
 | .vptr cs,v,hk,hc=>by simp only [cJ_]at hk;simp only [Con]at hc⊢;obtain ⟨b,o,vs,h1,h2,h3⟩:=hc;exact ⟨b,o,vs,h1,cm_ h cs vs hk h2,h.immAt h3⟩
 | .sl id off len sz cap,v,hk,hc=>by have hk:id<k:=(by simpa [cJ_,Nat.blt_eq]using hk);simp only [Con]at hc⊢;obtain ⟨b,o,n,c,off',h1,h2,h3⟩:=hc;exact ⟨b,o,n,c,off',h.phi _ _ hk h1,h.sz _ _ h2,h3⟩
 | .vsl a z cs,v,hk,hc=>by simp only [cJ_]at hk;simp only [Con]at hc⊢;obtain ⟨b,o,vs,c,h1,h2,h3,h4⟩:=hc;exact ⟨b,o,vs,c,h1,h2,cm_ h cs vs hk h3,h.immAt h4⟩
 | .map id,v,hk,hc=>by have hk:id<k:=(by simpa [cJ_,Nat.blt_eq]using hk);simp only [Con]at hc⊢;obtain ⟨b,h1,h2⟩:=hc;exact ⟨b,h.phi _ _ hk h1,h2⟩
 | .fn f cap,v,hk,hc=>by simp only [cJ_]at hk;simp only [Con]at hc⊢;obtain ⟨vs,h1,h2⟩:=hc;exact ⟨vs,h1,cm_ h cap vs hk h2⟩
 | .iface t a,v,hk,hc=>by simp only [cJ_]at hk;simp only [Con]at hc⊢;obtain ⟨u,h1,h2⟩:=hc;exact ⟨u,h1,ik_ h a u hk h2⟩
 | .agg cs,v,hk,hc=>by simp only [cJ_]at hk;simp only [Con]at hc⊢;obtain ⟨vs,h1,h2⟩:=hc;exact ⟨vs,h1,cm_ h cs vs hk h2⟩
 | .tup cs,v,hk,hc=>by simp only [cJ_]at hk;simp only [Con]at hc⊢;obtain ⟨vs,h1,h2⟩:=hc;exact ⟨vs,h1,cm_ h cs vs hk h2⟩
 | .sym i,v,hk,hc=>by have hk:i<n:=(by simpa [cJ_,Nat.blt_eq]using hk);simp only [Con]at hc⊢;obtain ⟨a,h1,h2,h3⟩:=hc;exact ⟨a,by rw [h.sy i hk];exact h1,h2,cb_ (E:=E) (E':=E') h.imm h3⟩
 | .slx id sz i,v,hk,hc=>by simp only [cJ_]at hk;obtain ⟨hk1,hk2⟩:=aa_ hk;have hk1:id<k:=(by simpa [Nat.blt_eq]using hk1);have hk2:i<n:=(by simpa [Nat.blt_eq]using hk2);simp only [Con]at hc⊢;obtain ⟨a,h0,hc⟩:=hc;exact ⟨a,by rw [h.sy i hk2];exact h0,hc.imp_right λ⟨len,cs,e,b,o,n,c,off',h1,h2,h3⟩=>⟨len,cs,e,b,o,n,c,off',h.phi _ _ hk1 h1,h.sz _ _ h2,h3⟩⟩
 | .ptx id j sz off,v,hk,hc=>by simp only [cJ_]at hk;obtain ⟨hk1,hk2⟩:=aa_ hk;have hk1:id<k:=(by simpa [Nat.blt_eq]using hk1);have hk2:j<n:=(by simpa [Nat.blt_eq]using hk2);simp only [Con]at hc⊢;obtain ⟨q,m,h0,b,o,h1,h2⟩:=hc;exact ⟨q,m,by rw [h.sy j hk2];exact h0,b,o,h.phi _ _ hk1 h1,h2⟩
theorem cm_ {k n:Nat} {E E':Env} (h:Keeps k n E E'):∀(l:List AV) (vs:List Value),d2_ k n l=true->ConL E l vs->ConL E' l vs
 |[],vs,_,hc=>hc
 |a::r,vs,hk,hc=>by simp only [d2_]at hk;obtain ⟨k1,k2⟩:=aa_ hk;simp only [ConL]at hc⊢;obtain ⟨v,q,h1,h2,h3⟩:=hc;exact ⟨v,q,h1,ik_ h a v k1 h2,cm_ h r q k2 h3⟩
end
theorem kb_ {k n:Nat} {E:Env} {a:AV} {v:Value} (h:Con E a v):Con E (bG_ k n a) v:=by unfold bG_;split;exact h;simp [Con]
theorem jQ_ {k n:Nat} {E E':Env} (h:Keeps k n E E') {a:AV} {v:Value} (hc:Con E (bG_ k n a) v):Con E' (bG_ k n a) v:=by unfold bG_ at hc⊢;split at hc;rename_i hk;exact ik_ h a v hk hc;rename_i hk;simp [Con]
theorem gu_ {P:Program} {k n:Nat} {E E':Env} (h:Keeps k n E E'):∀{D:Dfs} {ds:List Deferred},mq_ k n D=true->DRel P E D ds->DRel P E' D ds
 |[],ds,_,hd=>hd
 |(f,args)::D,ds,hk,hd=>by simp only [mq_]at hk;obtain ⟨k1,k2⟩:=aa_ hk;obtain ⟨vs,r,h1,h2,h3,h4⟩:=hd;exact ⟨vs,r,h1,cm_ h args vs k1 h2,h3,gu_ h k2 h4⟩
end Go.Sx
