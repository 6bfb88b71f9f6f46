/-
  ServFull: the call at every number.
-/
import Derived.Test.YtldcffkkfbpcnaaGreatDoorUFa
import Derived.Test.YtldcffkkfbpcnaaGreatDoorUFb
import Derived.Test.YtldcffkkfbpcnaaGreatDoorUFc
import Derived.Test.YtldcffkkfbpcnaaGreatDoorUFd
import Derived.KernelRfl
set_option maxRecDepth 100000
namespace Go.Proofs.YtldcffkkfbpcnaaGreatDoor.UF
open Go.Sx
theorem all {x y z : Int} (hx : x = 0 ∨ x = 1 ∨ x = 2 ∨ x = 3 ∨ x = 4 ∨ x = 5 ∨ x = 6 ∨ x = 7) (hy : y = 0 ∨ y = 1 ∨ y = 2 ∨ y = 3) (hz : z = 0 ∨ z = 1 ∨ z = 2) : chk x y z := by
  rcases hx with rfl | rfl | rfl | rfl | rfl | rfl | rfl | rfl <;> rcases hy with rfl | rfl | rfl | rfl <;> rcases hz with rfl | rfl | rfl
  · exact c_0_0_0
  · exact c_0_0_1
  · exact c_0_0_2
  · exact c_0_1_0
  · exact c_0_1_1
  · exact c_0_1_2
  · exact c_0_2_0
  · exact c_0_2_1
  · exact c_0_2_2
  · exact c_0_3_0
  · exact c_0_3_1
  · exact c_0_3_2
  · exact c_1_0_0
  · exact c_1_0_1
  · exact c_1_0_2
  · exact c_1_1_0
  · exact c_1_1_1
  · exact c_1_1_2
  · exact c_1_2_0
  · exact c_1_2_1
  · exact c_1_2_2
  · exact c_1_3_0
  · exact c_1_3_1
  · exact c_1_3_2
  · exact c_2_0_0
  · exact c_2_0_1
  · exact c_2_0_2
  · exact c_2_1_0
  · exact c_2_1_1
  · exact c_2_1_2
  · exact c_2_2_0
  · exact c_2_2_1
  · exact c_2_2_2
  · exact c_2_3_0
  · exact c_2_3_1
  · exact c_2_3_2
  · exact c_3_0_0
  · exact c_3_0_1
  · exact c_3_0_2
  · exact c_3_1_0
  · exact c_3_1_1
  · exact c_3_1_2
  · exact c_3_2_0
  · exact c_3_2_1
  · exact c_3_2_2
  · exact c_3_3_0
  · exact c_3_3_1
  · exact c_3_3_2
  · exact c_4_0_0
  · exact c_4_0_1
  · exact c_4_0_2
  · exact c_4_1_0
  · exact c_4_1_1
  · exact c_4_1_2
  · exact c_4_2_0
  · exact c_4_2_1
  · exact c_4_2_2
  · exact c_4_3_0
  · exact c_4_3_1
  · exact c_4_3_2
  · exact c_5_0_0
  · exact c_5_0_1
  · exact c_5_0_2
  · exact c_5_1_0
  · exact c_5_1_1
  · exact c_5_1_2
  · exact c_5_2_0
  · exact c_5_2_1
  · exact c_5_2_2
  · exact c_5_3_0
  · exact c_5_3_1
  · exact c_5_3_2
  · exact c_6_0_0
  · exact c_6_0_1
  · exact c_6_0_2
  · exact c_6_1_0
  · exact c_6_1_1
  · exact c_6_1_2
  · exact c_6_2_0
  · exact c_6_2_1
  · exact c_6_2_2
  · exact c_6_3_0
  · exact c_6_3_1
  · exact c_6_3_2
  · exact c_7_0_0
  · exact c_7_0_1
  · exact c_7_0_2
  · exact c_7_1_0
  · exact c_7_1_1
  · exact c_7_1_2
  · exact c_7_2_0
  · exact c_7_2_1
  · exact c_7_2_2
  · exact c_7_3_0
  · exact c_7_3_1
  · exact c_7_3_2
theorem pure_at {a0 a1 a2 : Int} (h0 : 0 ≤ a0) (h1 : 0 ≤ a1) (h2 : 0 ≤ a2) : @Pure (G l7) Tryz.prog 5 [.int .u8 a0, .int .u8 a1, .int .u8 a2] (.bool true) := by
  have e0 := Int.tmod_eq_emod_of_nonneg (b := 8) h0
  have e1 := Int.tmod_eq_emod_of_nonneg (b := 4) h1
  have e2 := Int.tmod_eq_emod_of_nonneg (b := 3) h2
  have hc := all (x := a0.tmod 8) (y := a1.tmod 4) (z := a2.tmod 3) (by omega) (by omega) (by omega)
  refine @pure_facts (G l7) Tryz.prog mo o7 [.int .u8 a0, .int .u8 a1, .int .u8 a2] (fcs (a0.tmod 8) (a1.tmod 4) (a2.tmod 3)) (.bool true) 3000 5 rfl rfl (@known_of (G l7) Tryz.prog _ _ fun f hf => ?_) hc
  simp only [List.mem_cons, List.not_mem_nil, or_false] at hf
  rcases hf with rfl | rfl | rfl
  · exact ⟨rfl, rfl, 0, _, rfl, rfl, fun t cx cy => rem_run (by decide) rfl t cx cy⟩
  · exact ⟨rfl, rfl, 1, _, rfl, rfl, fun t cx cy => rem_run (by decide) rfl t cx cy⟩
  · exact ⟨rfl, rfl, 2, _, rfl, rfl, fun t cx cy => rem_run (by decide) rfl t cx cy⟩
theorem walk (a0 a1 a2 : Int) (w0 : (Lit.int .u8 a0).wf = true) (w1 : (Lit.int .u8 a1).wf = true) (w2 : (Lit.int .u8 a2).wf = true) (w : World) :
    Calls Tryz.prog 5 #[.int .u8 a0, .int .u8 a1, .int .u8 a2] w fun e w' => e = .returned (.bool true) ∧ RowKit.Grown w w' := by
  have pos : ∀ a : Int, (Lit.int .u8 a).wf = true → 0 ≤ a := fun a h => by
    simp only [Lit.wf, Bool.and_eq_true, decide_eq_true_eq] at h
    exact Int.le_trans (by decide) h.1
  refine Calls.mono (@pure_grown (G l7) Tryz.prog 5 _ _ (pure_at (pos a0 w0) (pos a1 w1) (pos a2 w2)) w [.int .u8 a0, .int .u8 a1, .int .u8 a2] (fun E => by simp [ConL, Con]) ⟨fun g => by show Con _ .opq _; simp [Con], fun i a _ h => by cases h⟩) fun e w' he => ?_
  obtain ⟨⟨E, u, rfl, hc⟩, hg⟩ := he
  simp only [Con] at hc
  subst hc
  exact ⟨rfl, hg⟩
end Go.Proofs.YtldcffkkfbpcnaaGreatDoor.UF
