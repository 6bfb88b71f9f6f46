/-
  The law's call, whatever the world: it answers true, and lays at most new blocks.
-/
import Derived.Test.YtmhcemkembijeaaVA
import Derived.Test.YtmhcemkembijeaaSyW
import Derived.KernelRfl
set_option linter.unusedVariables false
namespace Go.Proofs.Ytmhcemkembijeaa.vars
open Go Go.Sx
theorem walkWA {W : World} {p : List MemPlace} {m : Int} (hm : W.cell? ⟨1, 0, none⟩ = some (.int .i64 m)) (s0 : List UInt8) (m0 : s0.length ≤ maxLen) (l1 : List UInt8) (x1 : AV) (sl1 : SlV encB 1 l1 x1) (pl1 : True) (m1 : l1.length ≤ maxLen) {v1 : Value} (c1 : Con (envOf (imOf W (.cell 1 0 :: p))) x1 v1) : Calls Try.prog 3 #[.string ⟨⟨s0⟩⟩, v1] W fun e w' => e = .returned (.bool true) ∧ Go.Sx.GrownB W w' := by
  refine Calls.mono (pure_grownG (args := [.str s0, x1]) (v := .bool true) (p3 s0 l1 x1 sl1) W p (vs := [.string ⟨⟨s0⟩⟩, v1]) hm (by simp only [noRefL, noRef, okC_noRef (sl1.ok okB1)]) (by simp only [ConL, Con]; exact ⟨_, _, rfl, rfl, _, _, rfl, c1, rfl⟩)) fun e w' h => ?_
  obtain ⟨⟨E, u, h1, h2⟩, h3⟩ := h
  simp only [Con] at h2
  subst h2
  exact ⟨h1, h3⟩
end Go.Proofs.Ytmhcemkembijeaa.vars
