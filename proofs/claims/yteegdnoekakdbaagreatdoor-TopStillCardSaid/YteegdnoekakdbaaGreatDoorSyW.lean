/-
  A law with parameters, where a package variable holds a number.
-/
import Derived.Test.YteegdnoekakdbaaGreatDoorSyE
import Derived.Test.YteegdnoekakdbaaGreatDoorSyZ
set_option linter.unusedVariables false
namespace Go.Sx
theorem te_ {P:Program} {g:Nat} {l:List (FuncId×List AV×AV)} {rd:RD} {f:FuncId} {args:List AV} {v:AV} (hp: @kv_ (ev_ g l rd) P f args v) (w:World) (ps:List MemPlace) {vs:List Value} {m:Int}
  (hw:w.cell? ⟨g,0,none⟩=some (.int .i64 m)) (hn:cm_ args=true) (hc:ConL (qt_ (np_ w (.cell g 0::ps))) args vs):
  Calls P f ⟨vs⟩ w λe w'=>(∃E u,e=.returned u/\Con E v u)/\GrownB w w':=by
 let E:Env:={ qt_ (np_ w (.cell g 0::ps))with sy:=λi=>if i=0 then some (.int .i64 m)else none }
 have hr:Rel w (λb=>b<w.heap.size) E H0 w:={
  own:=⟨λ_=>none,λid k hk=>(kX_ hk).elim,λ_ _=>rfl,λ_ _ _ _=>rfl⟩
  imm:=sf_ w _
  ib:=λ_ _ _ _ h=>h
  fresh:=λ_ _ _=>rfl
  resv:=λ_ h=>h.elim
  vds:=λ_ h=>h.elim
  szs:=λ_ _ h=>by cases h
  prot:=λb h=>⟨h,rfl⟩
  size:=Nat.le_refl _
  os:=rfl
  output:=rfl }
 have hg: @GlOk (ev_ g l rd) E:=by
  refine ⟨λi=>?_,m,rfl,λi _ hn=>by grind⟩;show Con E (glI g i) _;unfold glI;split
  .rename_i hb;have:=Nat.eq_of_beq_eq_true hb;subst this;refine ⟨i,0,[.int .i64 m],rfl,⟨_,_,rfl,⟨.int .i64 m,rfl,rfl,by simp [Con0]⟩,rfl⟩,λj v hv=>?_⟩;cases j with
   |zero=>show np_ w (.cell i 0::ps) i (0+0)=_;simp_all [np_]
   |succ j=>simp at hv
  simp [Con]
 refine Calls.mono (hp H0 w (λb=>b<w.heap.size) E w vs hg hr (bw_ (E:=qt_ (np_ w (.cell g 0::ps))) (E':=E) (λ_ _ _ h=>h) (λi a _ h=>by cases h) hn hc)) λe w' he=>?_;obtain ⟨E',_,u,rfl,h1,h2⟩:=he;exact ⟨⟨E',u,rfl,h1⟩,qI_ h2.size (λb hb=>(h2.prot b hb).2) h2.os h2.output⟩
end Go.Sx
