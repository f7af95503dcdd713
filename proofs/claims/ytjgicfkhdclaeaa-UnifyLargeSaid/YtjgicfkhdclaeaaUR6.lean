import Derived.Test.YtjgicfkhdclaeaaUF
set_option linter.all false
namespace Go.Proofs.Ytjgicfkhdclaeaa
open Go.J
theorem runU_30_false : runJ (envU 30) 2000 6 [.sym 0, .bool false] = some (.bool true) := by kernel_rfl
theorem runU_30_true : runJ (envU 30) 2000 6 [.sym 0, .bool true] = some (.bool true) := by kernel_rfl
theorem runU_31_false : runJ (envU 31) 2000 6 [.sym 0, .bool false] = some (.bool true) := by kernel_rfl
theorem runU_31_true : runJ (envU 31) 2000 6 [.sym 0, .bool true] = some (.bool true) := by kernel_rfl
theorem runU_32_false : runJ (envU 32) 2000 6 [.sym 0, .bool false] = some (.bool true) := by kernel_rfl
theorem runU_32_true : runJ (envU 32) 2000 6 [.sym 0, .bool true] = some (.bool true) := by kernel_rfl
theorem runU_33_false : runJ (envU 33) 2000 6 [.sym 0, .bool false] = some (.bool true) := by kernel_rfl
theorem runU_33_true : runJ (envU 33) 2000 6 [.sym 0, .bool true] = some (.bool true) := by kernel_rfl
theorem runU_34_false : runJ (envU 34) 2000 6 [.sym 0, .bool false] = some (.bool true) := by kernel_rfl
theorem runU_34_true : runJ (envU 34) 2000 6 [.sym 0, .bool true] = some (.bool true) := by kernel_rfl
end Go.Proofs.Ytjgicfkhdclaeaa
