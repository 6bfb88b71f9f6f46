/-
  ServFull: a quarter of the runs.
-/
import Derived.Test.YtldcffkkfbpcnaaGreatDoorUFm
import Derived.KernelRfl
set_option maxRecDepth 100000
namespace Go.Proofs.YtldcffkkfbpcnaaGreatDoor.UF
open Go.Sx
theorem c_1_0_0 : chk 1 0 0 := by unfold chk; kernel_rfl
theorem c_1_0_1 : chk 1 0 1 := by unfold chk; kernel_rfl
theorem c_1_0_2 : chk 1 0 2 := by unfold chk; kernel_rfl
theorem c_1_1_0 : chk 1 1 0 := by unfold chk; kernel_rfl
theorem c_1_1_1 : chk 1 1 1 := by unfold chk; kernel_rfl
theorem c_1_1_2 : chk 1 1 2 := by unfold chk; kernel_rfl
theorem c_1_2_0 : chk 1 2 0 := by unfold chk; kernel_rfl
theorem c_1_2_1 : chk 1 2 1 := by unfold chk; kernel_rfl
theorem c_1_2_2 : chk 1 2 2 := by unfold chk; kernel_rfl
theorem c_1_3_0 : chk 1 3 0 := by unfold chk; kernel_rfl
theorem c_1_3_1 : chk 1 3 1 := by unfold chk; kernel_rfl
theorem c_1_3_2 : chk 1 3 2 := by unfold chk; kernel_rfl
theorem c_5_0_0 : chk 5 0 0 := by unfold chk; kernel_rfl
theorem c_5_0_1 : chk 5 0 1 := by unfold chk; kernel_rfl
theorem c_5_0_2 : chk 5 0 2 := by unfold chk; kernel_rfl
theorem c_5_1_0 : chk 5 1 0 := by unfold chk; kernel_rfl
theorem c_5_1_1 : chk 5 1 1 := by unfold chk; kernel_rfl
theorem c_5_1_2 : chk 5 1 2 := by unfold chk; kernel_rfl
theorem c_5_2_0 : chk 5 2 0 := by unfold chk; kernel_rfl
theorem c_5_2_1 : chk 5 2 1 := by unfold chk; kernel_rfl
theorem c_5_2_2 : chk 5 2 2 := by unfold chk; kernel_rfl
theorem c_5_3_0 : chk 5 3 0 := by unfold chk; kernel_rfl
theorem c_5_3_1 : chk 5 3 1 := by unfold chk; kernel_rfl
theorem c_5_3_2 : chk 5 3 2 := by unfold chk; kernel_rfl
end Go.Proofs.YtldcffkkfbpcnaaGreatDoor.UF
