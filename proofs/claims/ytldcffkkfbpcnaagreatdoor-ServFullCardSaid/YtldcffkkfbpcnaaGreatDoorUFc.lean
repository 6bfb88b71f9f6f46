/-
  ServFull: a quarter of the runs.
-/
import Derived.Test.YtldcffkkfbpcnaaGreatDoorUFm
import Derived.KernelRfl
set_option maxRecDepth 100000
namespace Go.Proofs.YtldcffkkfbpcnaaGreatDoor.UF
open Go.Sx
theorem c_2_0_0 : chk 2 0 0 := by unfold chk; kernel_rfl
theorem c_2_0_1 : chk 2 0 1 := by unfold chk; kernel_rfl
theorem c_2_0_2 : chk 2 0 2 := by unfold chk; kernel_rfl
theorem c_2_1_0 : chk 2 1 0 := by unfold chk; kernel_rfl
theorem c_2_1_1 : chk 2 1 1 := by unfold chk; kernel_rfl
theorem c_2_1_2 : chk 2 1 2 := by unfold chk; kernel_rfl
theorem c_2_2_0 : chk 2 2 0 := by unfold chk; kernel_rfl
theorem c_2_2_1 : chk 2 2 1 := by unfold chk; kernel_rfl
theorem c_2_2_2 : chk 2 2 2 := by unfold chk; kernel_rfl
theorem c_2_3_0 : chk 2 3 0 := by unfold chk; kernel_rfl
theorem c_2_3_1 : chk 2 3 1 := by unfold chk; kernel_rfl
theorem c_2_3_2 : chk 2 3 2 := by unfold chk; kernel_rfl
theorem c_6_0_0 : chk 6 0 0 := by unfold chk; kernel_rfl
theorem c_6_0_1 : chk 6 0 1 := by unfold chk; kernel_rfl
theorem c_6_0_2 : chk 6 0 2 := by unfold chk; kernel_rfl
theorem c_6_1_0 : chk 6 1 0 := by unfold chk; kernel_rfl
theorem c_6_1_1 : chk 6 1 1 := by unfold chk; kernel_rfl
theorem c_6_1_2 : chk 6 1 2 := by unfold chk; kernel_rfl
theorem c_6_2_0 : chk 6 2 0 := by unfold chk; kernel_rfl
theorem c_6_2_1 : chk 6 2 1 := by unfold chk; kernel_rfl
theorem c_6_2_2 : chk 6 2 2 := by unfold chk; kernel_rfl
theorem c_6_3_0 : chk 6 3 0 := by unfold chk; kernel_rfl
theorem c_6_3_1 : chk 6 3 1 := by unfold chk; kernel_rfl
theorem c_6_3_2 : chk 6 3 2 := by unfold chk; kernel_rfl
end Go.Proofs.YtldcffkkfbpcnaaGreatDoor.UF
