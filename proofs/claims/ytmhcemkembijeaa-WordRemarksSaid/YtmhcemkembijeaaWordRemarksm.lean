/-
  The law's call, whatever the world: it answers true, and lays at most new blocks.
-/
import Derived.Test.YtmhcemkembijeaaVR
import Derived.Test.YtmhcemkembijeaaSyW
import Derived.KernelRfl
set_option linter.unusedVariables false
set_option linter.unusedSimpArgs false
namespace Go.Proofs.Ytmhcemkembijeaa.vars
open Go Go.Sx
theorem walkWordRemarks {W : World} {p : List MemPlace} {m : Int} (hm : W.cell? ⟨1, 0, none⟩ = some (.int .i64 m)) (s0 : List UInt8) (m0 : s0.length ≤ maxLen) (s1 : List UInt8) (m1 : s1.length ≤ maxLen) : Calls Try.prog 5 #[.string ⟨⟨s0⟩⟩, .string ⟨⟨s1⟩⟩] W fun e w' => e = .returned (.bool true) ∧ Go.Sx.GrownB W w' := by
 refine Calls.mono (pure_grownG (args := [.str s0, .str s1]) (v := .bool true) (p5 s0 s1 m0 m1) W p (vs := [.string ⟨⟨s0⟩⟩, .string ⟨⟨s1⟩⟩]) hm (by simp only [noRefL, noRef]) (by simp only [ConL, Con]; exact ⟨_, _, rfl, rfl, _, _, rfl, rfl, rfl⟩)) fun e w' h => ?_
 obtain ⟨⟨E, u, h1, h2⟩, h3⟩ := h
 simp only [Con] at h2
 subst h2
 exact ⟨h1, h3⟩
end Go.Proofs.Ytmhcemkembijeaa.vars
