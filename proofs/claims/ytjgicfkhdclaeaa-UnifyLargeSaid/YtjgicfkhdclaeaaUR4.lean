import Derived.Test.YtjgicfkhdclaeaaUF
set_option linter.all false
namespace Go.Proofs.Ytjgicfkhdclaeaa
open Go.J
theorem runU_20_false : runJ (envU 20) 2000 6 [.sym 0, .bool false] = some (.bool true) := by kernel_rfl
theorem runU_20_true : runJ (envU 20) 2000 6 [.sym 0, .bool true] = some (.bool true) := by kernel_rfl
theorem runU_21_false : runJ (envU 21) 2000 6 [.sym 0, .bool false] = some (.bool true) := by kernel_rfl
theorem runU_21_true : runJ (envU 21) 2000 6 [.sym 0, .bool true] = some (.bool true) := by kernel_rfl
theorem runU_22_false : runJ (envU 22) 2000 6 [.sym 0, .bool false] = some (.bool true) := by kernel_rfl
theorem runU_22_true : runJ (envU 22) 2000 6 [.sym 0, .bool true] = some (.bool true) := by kernel_rfl
theorem runU_23_false : runJ (envU 23) 2000 6 [.sym 0, .bool false] = some (.bool true) := by kernel_rfl
theorem runU_23_true : runJ (envU 23) 2000 6 [.sym 0, .bool true] = some (.bool true) := by kernel_rfl
theorem runU_24_false : runJ (envU 24) 2000 6 [.sym 0, .bool false] = some (.bool true) := by kernel_rfl
theorem runU_24_true : runJ (envU 24) 2000 6 [.sym 0, .bool true] = some (.bool true) := by kernel_rfl
end Go.Proofs.Ytjgicfkhdclaeaa
