/-
  The law's call, whatever the world: it answers true, and lays at most new blocks.
-/
import Derived.Test.YtngajicbldemgaaGreatDoorVC
import Derived.Test.YtngajicbldemgaaGreatDoorSyK
import Derived.KernelRfl
set_option linter.unusedVariables false
set_option linter.unusedSimpArgs false
namespace Go.Proofs.YtngajicbldemgaaGreatDoor.vars
open Go Go.Sx
theorem walkPlayOne {W:World} {p:List MemPlace} {m:Int} (hm:W.cell? ⟨1,0,none⟩=some (.int .i64 m)) (a0:Int) (w0:(Lit.int .u8 a0).wf=true) (a1:Int) (w1:(Lit.int .u8 a1).wf=true) (a2:Int) (w2:(Lit.int .u32 a2).wf=true) (l3:List UInt8) (x3:AV) (sl3:SlV a_ 1 l3 x3) (pl3:True) (m3:l3.length<=maxLen) {v3:Value} (c3:Con (l4_ (iE_ W (.cell 1 0::p))) x3 v3) (x4:GVal) (pl4:x4.f<18446744073709551616) {v4:Value} (c4:Con (l4_ (iE_ W (.cell 1 0::p))) (.agg (es_ x4)) v4):Calls Tryz.prog 3 #[.int .u8 a0,.int .u8 a1,.int .u32 a2,v3,v4] W λe w'=>e=.returned (.bool true)/\Go.Sx.GrownB W w':=by
 refine Calls.mono (tJ_ (args:=[.int .u8 a0,.int .u8 a1,.int .u32 a2,x3,.agg (es_ x4)]) (v:=.bool true) (q3w w0 w1 w2 sl3 x4) W p (vs:=[.int .u8 a0,.int .u8 a1,.int .u32 a2,v3,v4]) hm (by simp only [cb_,a0_,qa_ (sl3.ok c_)]) (by simp only [ConL,Con];exact ⟨_,_,rfl,rfl,_,_,rfl,rfl,_,_,rfl,rfl,_,_,rfl,c3,_,_,rfl,c4,rfl⟩)) λe w' h=>?_
 obtain ⟨⟨E,u,h1,h2⟩,h3⟩:=h
 simp only [Con]at h2
 subst h2
 exact ⟨h1,h3⟩
end Go.Proofs.YtngajicbldemgaaGreatDoor.vars
