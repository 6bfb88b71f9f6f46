/-
  The law's call, whatever the world: it answers true, and lays at most new blocks.
-/
import Derived.Test.YtbceomdmpbmnkaaDoorVK
import Derived.Test.YtbceomdmpbmnkaaDoorSyS
import Derived.KernelRfl
set_option linter.unusedVariables false
namespace Go.Proofs.YtbceomdmpbmnkaaDoor.vars
open Go Go.Sx
theorem walkBA {W : World} {p : List MemPlace} (a0 : Int) (w0 : (Lit.int .i64 a0).wf = true) (a1 : Int) (w1 : (Lit.int .u16 a1).wf = true) (l2 : List GVar) (x2 : AV) (sl2 : SlV encVar 10 l2 x2) (pl2 : ∀ v ∈ l2, Plain v) (m2 : l2.length ≤ maxLen) {v2 : Value} (c2 : Con (envOf (imOf W p)) x2 v2) : Calls Tryd.prog 5 #[.int .i64 a0, .int .u16 a1, v2] W fun e w' => e = .returned (.bool true) ∧ Go.Sx.GrownB W w' := by
  refine Calls.mono (@pure_grownI gI Tryd.prog 5 [.int .i64 a0, .int .u16 a1, x2] _ (p5 a0 a1 x2 l2.length (wild_slv sl2 pl2)) W p [.int .i64 a0, .int .u16 a1, v2] (by simp only [ConL, Con]; exact ⟨_, _, rfl, rfl, _, _, rfl, rfl, _, _, rfl, c2, rfl⟩) ⟨fun g => by show Con _ AV.opq _; simp [Con], fun i a _ h => by cases h⟩) fun e w' h => ?_
  obtain ⟨⟨E, u, h1, h2⟩, h3⟩ := h
  simp only [Con] at h2
  subst h2
  exact ⟨h1, h3⟩
end Go.Proofs.YtbceomdmpbmnkaaDoor.vars
