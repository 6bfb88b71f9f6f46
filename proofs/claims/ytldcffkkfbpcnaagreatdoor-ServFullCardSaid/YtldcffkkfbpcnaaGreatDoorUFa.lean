/-
  ServFull: a quarter of the runs.
-/
import Derived.Test.YtldcffkkfbpcnaaGreatDoorUFm
import Derived.KernelRfl
set_option maxRecDepth 100000
namespace Go.Proofs.YtldcffkkfbpcnaaGreatDoor.UF
open Go.Sx
theorem c_0_0_0 : chk 0 0 0 := by unfold chk; kernel_rfl
theorem c_0_0_1 : chk 0 0 1 := by unfold chk; kernel_rfl
theorem c_0_0_2 : chk 0 0 2 := by unfold chk; kernel_rfl
theorem c_0_1_0 : chk 0 1 0 := by unfold chk; kernel_rfl
theorem c_0_1_1 : chk 0 1 1 := by unfold chk; kernel_rfl
theorem c_0_1_2 : chk 0 1 2 := by unfold chk; kernel_rfl
theorem c_0_2_0 : chk 0 2 0 := by unfold chk; kernel_rfl
theorem c_0_2_1 : chk 0 2 1 := by unfold chk; kernel_rfl
theorem c_0_2_2 : chk 0 2 2 := by unfold chk; kernel_rfl
theorem c_0_3_0 : chk 0 3 0 := by unfold chk; kernel_rfl
theorem c_0_3_1 : chk 0 3 1 := by unfold chk; kernel_rfl
theorem c_0_3_2 : chk 0 3 2 := by unfold chk; kernel_rfl
theorem c_4_0_0 : chk 4 0 0 := by unfold chk; kernel_rfl
theorem c_4_0_1 : chk 4 0 1 := by unfold chk; kernel_rfl
theorem c_4_0_2 : chk 4 0 2 := by unfold chk; kernel_rfl
theorem c_4_1_0 : chk 4 1 0 := by unfold chk; kernel_rfl
theorem c_4_1_1 : chk 4 1 1 := by unfold chk; kernel_rfl
theorem c_4_1_2 : chk 4 1 2 := by unfold chk; kernel_rfl
theorem c_4_2_0 : chk 4 2 0 := by unfold chk; kernel_rfl
theorem c_4_2_1 : chk 4 2 1 := by unfold chk; kernel_rfl
theorem c_4_2_2 : chk 4 2 2 := by unfold chk; kernel_rfl
theorem c_4_3_0 : chk 4 3 0 := by unfold chk; kernel_rfl
theorem c_4_3_1 : chk 4 3 1 := by unfold chk; kernel_rfl
theorem c_4_3_2 : chk 4 3 2 := by unfold chk; kernel_rfl
end Go.Proofs.YtldcffkkfbpcnaaGreatDoor.UF
