/-
  The law's call, whatever the world: it answers true, and lays at most new blocks.
-/
import Derived.Test.YtbceomdmpbmnkaaVH
import Derived.Test.YtbceomdmpbmnkaaSyS
import Derived.KernelRfl
set_option linter.unusedVariables false
set_option linter.unusedSimpArgs false
namespace Go.Proofs.Ytbceomdmpbmnkaa.vars
open Go Go.Sx
theorem walkVarsAll {W : World} {p : List MemPlace} (a0 : Int) (w0 : (Lit.int .u8 a0).wf = true) (a1 : Int) (w1 : (Lit.int .u8 a1).wf = true) (a2 : Int) (w2 : (Lit.int .i64 a2).wf = true) (s3 : List UInt8) (m3 : s3.length ≤ maxLen) (l4 : List GVar) (x4 : AV) (sl4 : SlV encVar 10 l4 x4) (pl4 : ∀ v ∈ l4, Plain v) (m4 : l4.length ≤ maxLen) {v4 : Value} (c4 : Con (envOf (imOf W (p))) x4 v4) (x5 : GVal) (pl5 : x5.f < 18446744073709551616) {v5 : Value} (c5 : Con (envOf (imOf W (p))) (.agg (encVal x5)) v5) (a6 : Int) (w6 : (Lit.int .i64 a6).wf = true) : Calls Try.prog 3 #[.int .u8 a0, .int .u8 a1, .int .i64 a2, .string ⟨⟨s3⟩⟩, v4, v5, .int .i64 a6] W fun e w' => e = .returned (.bool true) ∧ Go.Sx.GrownB W w' := by
 refine Calls.mono (@pure_grownI gI Try.prog 3 [.int .u8 a0, .int .u8 a1, .int .i64 a2, .str s3, x4, .agg (encVal x5), .int .i64 a6] _ (q3 w1 m3 sl4 pl4 x5 pl5) W p [.int .u8 a0, .int .u8 a1, .int .i64 a2, .string ⟨⟨s3⟩⟩, v4, v5, .int .i64 a6] (by simp only [ConL, Con]; exact ⟨_, _, rfl, rfl, _, _, rfl, rfl, _, _, rfl, rfl, _, _, rfl, rfl, _, _, rfl, c4, _, _, rfl, c5, _, _, rfl, rfl, rfl⟩) ⟨fun g => by show Con _ AV.opq _; simp [Con], fun i a _ h => by cases h⟩) fun e w' h => ?_
 obtain ⟨⟨E, u, h1, h2⟩, h3⟩ := h
 simp only [Con] at h2
 subst h2
 exact ⟨h1, h3⟩
end Go.Proofs.Ytbceomdmpbmnkaa.vars
