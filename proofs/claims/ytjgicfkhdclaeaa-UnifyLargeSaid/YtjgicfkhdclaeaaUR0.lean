import Derived.Test.YtjgicfkhdclaeaaUF
set_option linter.all false
namespace Go.Proofs.Ytjgicfkhdclaeaa
open Go.J
theorem runU_0_false : runJ (envU 0) 2000 6 [.sym 0, .bool false] = some (.bool true) := by kernel_rfl
theorem runU_0_true : runJ (envU 0) 2000 6 [.sym 0, .bool true] = some (.bool true) := by kernel_rfl
theorem runU_1_false : runJ (envU 1) 2000 6 [.sym 0, .bool false] = some (.bool true) := by kernel_rfl
theorem runU_1_true : runJ (envU 1) 2000 6 [.sym 0, .bool true] = some (.bool true) := by kernel_rfl
theorem runU_2_false : runJ (envU 2) 2000 6 [.sym 0, .bool false] = some (.bool true) := by kernel_rfl
theorem runU_2_true : runJ (envU 2) 2000 6 [.sym 0, .bool true] = some (.bool true) := by kernel_rfl
theorem runU_3_false : runJ (envU 3) 2000 6 [.sym 0, .bool false] = some (.bool true) := by kernel_rfl
theorem runU_3_true : runJ (envU 3) 2000 6 [.sym 0, .bool true] = some (.bool true) := by kernel_rfl
theorem runU_4_false : runJ (envU 4) 2000 6 [.sym 0, .bool false] = some (.bool true) := by kernel_rfl
theorem runU_4_true : runJ (envU 4) 2000 6 [.sym 0, .bool true] = some (.bool true) := by kernel_rfl
end Go.Proofs.Ytjgicfkhdclaeaa
