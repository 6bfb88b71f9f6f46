/-
  The law's call, whatever the world: it answers true, and lays at most new blocks.
-/
import Derived.Test.YtbceomdmpbmnkaaDoorVK
import Derived.Test.YtbceomdmpbmnkaaDoorSyS
import Derived.KernelRfl
set_option linter.unusedVariables false
namespace Go.Proofs.YtbceomdmpbmnkaaDoor.vars
open Go Go.Sx
theorem walkPA {W : World} {p : List MemPlace} (l0 : List GVar) (x0 : AV) (sl0 : SlV encVar 10 l0 x0) (pl0 : ∀ v ∈ l0, Plain v) (m0 : l0.length ≤ maxLen) {v0 : Value} (c0 : Con (envOf (imOf W p)) x0 v0) (s1 : List UInt8) (m1 : s1.length ≤ maxLen) (a2 : Int) (w2 : (Lit.int .u8 a2).wf = true) : Calls Tryd.prog 3 #[v0, .string ⟨⟨s1⟩⟩, .int .u8 a2] W fun e w' => e = .returned (.bool true) ∧ Go.Sx.GrownB W w' := by
  refine Calls.mono (@pure_grownI gI Tryd.prog 3 [x0, .str s1, .int .u8 a2] _ (p3w x0 l0.length (wild_slv sl0 pl0) s1 a2 w2) W p [v0, .string ⟨⟨s1⟩⟩, .int .u8 a2] (by simp only [ConL, Con]; exact ⟨_, _, rfl, c0, _, _, rfl, rfl, _, _, rfl, rfl, rfl⟩) ⟨fun g => by show Con _ AV.opq _; simp [Con], fun i a _ h => by cases h⟩) fun e w' h => ?_
  obtain ⟨⟨E, u, h1, h2⟩, h3⟩ := h
  simp only [Con] at h2
  subst h2
  exact ⟨h1, h3⟩
end Go.Proofs.YtbceomdmpbmnkaaDoor.vars
