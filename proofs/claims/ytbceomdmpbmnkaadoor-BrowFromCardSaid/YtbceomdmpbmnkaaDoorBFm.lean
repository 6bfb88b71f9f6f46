/-
  The law's call, whatever the world: it answers true, and lays at most new blocks.
-/
import Derived.Test.YtbceomdmpbmnkaaDoorVH
import Derived.Test.YtbceomdmpbmnkaaDoorSyG
import Derived.KernelRfl
set_option linter.unusedVariables false
namespace Go.Proofs.YtbceomdmpbmnkaaDoor.vars
open Go Go.Sx
theorem walkBF (a0 : Int) (a1 : Int) (w0 : (Lit.int .u8 a0).wf = true) (w1 : (Lit.int .u16 a1).wf = true) (w : World) : Calls Tryd.prog 7 #[.int .u8 a0, .int .u16 a1] w fun e w' => e = .returned (.bool true) ∧ Go.Sx.GrownB w w' := by
  refine Calls.mono (@pure_grown gI Tryd.prog 7 _ _ (p7w a0 a1 w0) w [.int .u8 a0, .int .u16 a1] (fun E => by simp [ConL, Con]) ⟨fun g => by show Con _ AV.opq _; simp [Con], fun i a _ h => by cases h⟩) fun e w' h => ?_
  obtain ⟨⟨E, u, h1, h2⟩, h3⟩ := h
  simp only [Con] at h2
  subst h2
  exact ⟨h1, h3⟩
end Go.Proofs.YtbceomdmpbmnkaaDoor.vars
