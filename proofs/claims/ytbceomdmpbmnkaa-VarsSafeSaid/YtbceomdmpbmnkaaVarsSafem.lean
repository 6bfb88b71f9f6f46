/-
  The law's call, whatever the world: it answers true, and lays at most new blocks.
-/
import Derived.Test.YtbceomdmpbmnkaaV4
import Derived.Test.YtbceomdmpbmnkaaSyS
import Derived.KernelRfl
set_option linter.unusedVariables false
set_option linter.unusedSimpArgs false
namespace Go.Proofs.Ytbceomdmpbmnkaa.vars
open Go Go.Sx
theorem walkVarsSafe {W : World} {p : List MemPlace} (l0 : List UInt8) (x0 : AV) (sl0 : SlV encC 1 l0 x0) (pl0 : True) (m0 : l0.length ≤ maxLen) {v0 : Value} (c0 : Con (envOf (imOf W (p))) x0 v0) : Calls Try.prog 4 #[v0] W fun e w' => e = .returned (.bool true) ∧ Go.Sx.GrownB W w' := by
 refine Calls.mono (@pure_grownI gI Try.prog 4 [x0] _ (q4 sl0 m0) W p [v0] (by simp only [ConL, Con]; exact ⟨_, _, rfl, c0, rfl⟩) ⟨fun g => by show Con _ AV.opq _; simp [Con], fun i a _ h => by cases h⟩) fun e w' h => ?_
 obtain ⟨⟨E, u, h1, h2⟩, h3⟩ := h
 simp only [Con] at h2
 subst h2
 exact ⟨h1, h3⟩
end Go.Proofs.Ytbceomdmpbmnkaa.vars
