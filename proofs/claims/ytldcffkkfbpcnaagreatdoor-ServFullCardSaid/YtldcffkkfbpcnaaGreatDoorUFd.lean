/-
  ServFull: a quarter of the runs.
-/
import Derived.Test.YtldcffkkfbpcnaaGreatDoorUFm
import Derived.KernelRfl
set_option maxRecDepth 100000
namespace Go.Proofs.YtldcffkkfbpcnaaGreatDoor.UF
open Go.Sx
theorem c_3_0_0 : chk 3 0 0 := by unfold chk; kernel_rfl
theorem c_3_0_1 : chk 3 0 1 := by unfold chk; kernel_rfl
theorem c_3_0_2 : chk 3 0 2 := by unfold chk; kernel_rfl
theorem c_3_1_0 : chk 3 1 0 := by unfold chk; kernel_rfl
theorem c_3_1_1 : chk 3 1 1 := by unfold chk; kernel_rfl
theorem c_3_1_2 : chk 3 1 2 := by unfold chk; kernel_rfl
theorem c_3_2_0 : chk 3 2 0 := by unfold chk; kernel_rfl
theorem c_3_2_1 : chk 3 2 1 := by unfold chk; kernel_rfl
theorem c_3_2_2 : chk 3 2 2 := by unfold chk; kernel_rfl
theorem c_3_3_0 : chk 3 3 0 := by unfold chk; kernel_rfl
theorem c_3_3_1 : chk 3 3 1 := by unfold chk; kernel_rfl
theorem c_3_3_2 : chk 3 3 2 := by unfold chk; kernel_rfl
theorem c_7_0_0 : chk 7 0 0 := by unfold chk; kernel_rfl
theorem c_7_0_1 : chk 7 0 1 := by unfold chk; kernel_rfl
theorem c_7_0_2 : chk 7 0 2 := by unfold chk; kernel_rfl
theorem c_7_1_0 : chk 7 1 0 := by unfold chk; kernel_rfl
theorem c_7_1_1 : chk 7 1 1 := by unfold chk; kernel_rfl
theorem c_7_1_2 : chk 7 1 2 := by unfold chk; kernel_rfl
theorem c_7_2_0 : chk 7 2 0 := by unfold chk; kernel_rfl
theorem c_7_2_1 : chk 7 2 1 := by unfold chk; kernel_rfl
theorem c_7_2_2 : chk 7 2 2 := by unfold chk; kernel_rfl
theorem c_7_3_0 : chk 7 3 0 := by unfold chk; kernel_rfl
theorem c_7_3_1 : chk 7 3 1 := by unfold chk; kernel_rfl
theorem c_7_3_2 : chk 7 3 2 := by unfold chk; kernel_rfl
end Go.Proofs.YtldcffkkfbpcnaaGreatDoor.UF
