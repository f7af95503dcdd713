import Derived.Test.YtjgicfkhdclaeaaUF
set_option linter.all false
namespace Go.Proofs.Ytjgicfkhdclaeaa
open Go.J
theorem runU_5_false : runJ (envU 5) 2000 6 [.sym 0, .bool false] = some (.bool true) := by kernel_rfl
theorem runU_5_true : runJ (envU 5) 2000 6 [.sym 0, .bool true] = some (.bool true) := by kernel_rfl
theorem runU_6_false : runJ (envU 6) 2000 6 [.sym 0, .bool false] = some (.bool true) := by kernel_rfl
theorem runU_6_true : runJ (envU 6) 2000 6 [.sym 0, .bool true] = some (.bool true) := by kernel_rfl
theorem runU_7_false : runJ (envU 7) 2000 6 [.sym 0, .bool false] = some (.bool true) := by kernel_rfl
theorem runU_7_true : runJ (envU 7) 2000 6 [.sym 0, .bool true] = some (.bool true) := by kernel_rfl
theorem runU_8_false : runJ (envU 8) 2000 6 [.sym 0, .bool false] = some (.bool true) := by kernel_rfl
theorem runU_8_true : runJ (envU 8) 2000 6 [.sym 0, .bool true] = some (.bool true) := by kernel_rfl
theorem runU_9_false : runJ (envU 9) 2000 6 [.sym 0, .bool false] = some (.bool true) := by kernel_rfl
theorem runU_9_true : runJ (envU 9) 2000 6 [.sym 0, .bool true] = some (.bool true) := by kernel_rfl
end Go.Proofs.Ytjgicfkhdclaeaa
