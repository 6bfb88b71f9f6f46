/-
  The law's call, whatever the world: it answers true, and lays at most new blocks.
-/
import Derived.Test.YtbceomdmpbmnkaaDoorVH
import Derived.Test.YtbceomdmpbmnkaaDoorSyG
import Derived.KernelRfl
set_option linter.unusedVariables false
namespace Go.Proofs.YtbceomdmpbmnkaaDoor.vars
open Go Go.Sx
theorem walkBP (a0 : Int) (w0 : (Lit.int .u16 a0).wf = true) (w : World) : Calls Tryd.prog 6 #[.int .u16 a0] w fun e w' => e = .returned (.bool true) ∧ Go.Sx.GrownB w w' := by
  refine Calls.mono (@pure_grown gI Tryd.prog 6 _ _ (p6 a0) w [.int .u16 a0] (fun E => by simp [ConL, Con]) ⟨fun g => by show Con _ AV.opq _; simp [Con], fun i a _ h => by cases h⟩) fun e w' h => ?_
  obtain ⟨⟨E, u, h1, h2⟩, h3⟩ := h
  simp only [Con] at h2
  subst h2
  exact ⟨h1, h3⟩
end Go.Proofs.YtbceomdmpbmnkaaDoor.vars
