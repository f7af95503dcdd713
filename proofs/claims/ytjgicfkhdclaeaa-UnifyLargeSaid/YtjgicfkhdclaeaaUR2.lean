import Derived.Test.YtjgicfkhdclaeaaUF
set_option linter.all false
namespace Go.Proofs.Ytjgicfkhdclaeaa
open Go.J
theorem runU_10_false : runJ (envU 10) 2000 6 [.sym 0, .bool false] = some (.bool true) := by kernel_rfl
theorem runU_10_true : runJ (envU 10) 2000 6 [.sym 0, .bool true] = some (.bool true) := by kernel_rfl
theorem runU_11_false : runJ (envU 11) 2000 6 [.sym 0, .bool false] = some (.bool true) := by kernel_rfl
theorem runU_11_true : runJ (envU 11) 2000 6 [.sym 0, .bool true] = some (.bool true) := by kernel_rfl
theorem runU_12_false : runJ (envU 12) 2000 6 [.sym 0, .bool false] = some (.bool true) := by kernel_rfl
theorem runU_12_true : runJ (envU 12) 2000 6 [.sym 0, .bool true] = some (.bool true) := by kernel_rfl
theorem runU_13_false : runJ (envU 13) 2000 6 [.sym 0, .bool false] = some (.bool true) := by kernel_rfl
theorem runU_13_true : runJ (envU 13) 2000 6 [.sym 0, .bool true] = some (.bool true) := by kernel_rfl
theorem runU_14_false : runJ (envU 14) 2000 6 [.sym 0, .bool false] = some (.bool true) := by kernel_rfl
theorem runU_14_true : runJ (envU 14) 2000 6 [.sym 0, .bool true] = some (.bool true) := by kernel_rfl
end Go.Proofs.Ytjgicfkhdclaeaa
