/-
  What the calls of the law VarsWhere come to.
-/
import Derived.Test.YtbceomdmpbmnkaaV8
import Derived.KernelRfl
set_option maxRecDepth 100000
set_option linter.unusedVariables false
set_option linter.unusedSimpArgs false
namespace Go.Proofs.Ytbceomdmpbmnkaa.vars
open Go Go.Sx
theorem p36 : Pure Try.prog 36 [.flt .f64 0, .flt .f64 0] (.bool true) := memo_ok (n := 300) mo ov (by kernel_rfl)
def c20 : VC := ⟨⟨[], []⟩, [(36, [none])], []⟩
def t20 : VT :=
 (.lt (.bin .eql 3 false false) [.sym 64, .sym 67] 70 none
 (.ite 70
  (.lt (.bin .eql 2 false false) [.sym 65, .sym 68] 71 none
  (.ite 71
   (.call 36 [.sym 66, .sym 69] 72 [none]
   (.done (.sym 72)))
   (.done (.bool false))))
  (.done (.bool false))))
theorem p20 (v : GVal) (hv : v.f = 0) : Pure Try.prog 20 [.agg (encVal v), .agg (encVal v)] (.bool true) := by
  obtain ⟨k, i, f⟩ := v
  simp only at hv
  subst hv
  refine pure_shape (sh := [some 3, some 3]) (ls := encVal ⟨k, i, 0⟩ ++ encVal ⟨k, i, 0⟩) (c := c20) (n := 300) (t := t20) mo ov rfl rfl rfl (fun Y _ => known0 _) rfl (by kernel_rfl) fun Y hf hg => ?_
  unfold t20
  refine VOK_lt (run_eql ..) rfl (VOK_ite rfl (fun h => VOK_lt (run_eql ..) rfl (VOK_ite rfl (fun h => VOK_call p36 rfl rfl (VOK_done rfl)) (fun h => ?_))) (fun h => ?_))
  · simp at h
  · simp at h
def va (n : List UInt8) (role kind size : Int) (first safe : GVal) : GVar := ⟨n, role, kind, size, first, safe⟩
/-- what a program has -/
def playV : List GVar :=
  [⟨[97], 1, 2, 0, ⟨2, 0, 0⟩, ⟨0, 0, 0⟩⟩, ⟨[98], 1, 1, 0, ⟨1, 0, 0⟩, ⟨0, 0, 0⟩⟩, ⟨[111], 2, 2, 0, ⟨2, 0, 0⟩, ⟨2, 7, 0⟩⟩, ⟨[113], 2, 1, 0, ⟨1, 0, 0⟩, ⟨1, 1, 0⟩⟩, ⟨[120], 3, 2, 0, ⟨2, 5, 0⟩, ⟨0, 0, 0⟩⟩, ⟨[121], 3, 3, 0, ⟨3, 0, 0⟩, ⟨0, 0, 0⟩⟩,
   ⟨[122], 3, 5, 0, ⟨5, 0, 0⟩, ⟨0, 0, 0⟩⟩, ⟨[119], 3, 4, 0, ⟨4, 0, 0⟩, ⟨0, 0, 0⟩⟩, ⟨[107], 3, 2, 4, ⟨2, 0, 0⟩, ⟨0, 0, 0⟩⟩, ⟨[116, 109], 3, 6, 0, ⟨0, 0, 0⟩, ⟨0, 0, 0⟩⟩, ⟨[99], 3, 9, 0, ⟨0, 0, 0⟩, ⟨0, 0, 0⟩⟩, ⟨[101], 3, 11, 0, ⟨0, 0, 0⟩, ⟨0, 0, 0⟩⟩]
theorem p7 : Pure Try.prog 7 [] (vrs playV) := memo_ok (n := 300) mo ov (by kernel_rfl)
theorem p6 : Pure Try.prog 6 [] (.bool true) := memo_ok (n := 300) mo ov (by kernel_rfl)
theorem play_may {a : List GVar} (h : a.Sublist playV) : mayE a = 0 ∧ a.length ≤ 12 ∧ ∀ v ∈ a, Plain v := by
  refine ⟨may_sub h (by decide +kernel) (by decide +kernel) (by decide +kernel) (by decide +kernel), h.length_le, fun v hv => ?_⟩
  have := h.subset hv
  simp only [playV, List.mem_cons, List.not_mem_nil, or_false] at this
  rcases this with rfl | rfl | rfl | rfl | rfl | rfl | rfl | rfl | rfl | rfl | rfl | rfl <;> exact ⟨rfl, rfl⟩
end Go.Proofs.Ytbceomdmpbmnkaa.vars
