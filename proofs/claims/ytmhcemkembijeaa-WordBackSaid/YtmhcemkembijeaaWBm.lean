/-
  The law's call, whatever the world: it answers true, and lays at most new blocks.
-/
import Derived.Test.YtmhcemkembijeaaVA
import Derived.Test.YtmhcemkembijeaaSyW
import Derived.KernelRfl
set_option linter.unusedVariables false
namespace Go.Proofs.Ytmhcemkembijeaa.vars
open Go Go.Sx
theorem walkWB {W : World} {p : List MemPlace} {m : Int} (hm : W.cell? ⟨1, 0, none⟩ = some (.int .i64 m)) (l0 : List Nat) (x0 : AV) (sl0 : SlV encH 1 l0 x0) (pl0 : ∀ v ∈ l0, v < 65536) (m0 : l0.length ≤ maxLen) {v0 : Value} (c0 : Con (envOf (imOf W (.cell 1 0 :: p))) x0 v0) : Calls Try.prog 4 #[v0] W fun e w' => e = .returned (.bool true) ∧ Go.Sx.GrownB W w' := by
  refine Calls.mono (pure_grownG (args := [x0]) (v := .bool true) (p4 l0 x0 sl0 pl0) W p (vs := [v0]) hm (by simp only [noRefL, okC_noRef (sl0.ok okH1)]) (by simp only [ConL]; exact ⟨_, _, rfl, c0, rfl⟩)) fun e w' h => ?_
  obtain ⟨⟨E, u, h1, h2⟩, h3⟩ := h
  simp only [Con] at h2
  subst h2
  exact ⟨h1, h3⟩
end Go.Proofs.Ytmhcemkembijeaa.vars
