import Derived.Test.YtjgicfkhdclaeaaUF
set_option linter.all false
namespace Go.Proofs.Ytjgicfkhdclaeaa
open Go.J
theorem runU_15_false : runJ (envU 15) 2000 6 [.sym 0, .bool false] = some (.bool true) := by kernel_rfl
theorem runU_15_true : runJ (envU 15) 2000 6 [.sym 0, .bool true] = some (.bool true) := by kernel_rfl
theorem runU_16_false : runJ (envU 16) 2000 6 [.sym 0, .bool false] = some (.bool true) := by kernel_rfl
theorem runU_16_true : runJ (envU 16) 2000 6 [.sym 0, .bool true] = some (.bool true) := by kernel_rfl
theorem runU_17_false : runJ (envU 17) 2000 6 [.sym 0, .bool false] = some (.bool true) := by kernel_rfl
theorem runU_17_true : runJ (envU 17) 2000 6 [.sym 0, .bool true] = some (.bool true) := by kernel_rfl
theorem runU_18_false : runJ (envU 18) 2000 6 [.sym 0, .bool false] = some (.bool true) := by kernel_rfl
theorem runU_18_true : runJ (envU 18) 2000 6 [.sym 0, .bool true] = some (.bool true) := by kernel_rfl
theorem runU_19_false : runJ (envU 19) 2000 6 [.sym 0, .bool false] = some (.bool true) := by kernel_rfl
theorem runU_19_true : runJ (envU 19) 2000 6 [.sym 0, .bool true] = some (.bool true) := by kernel_rfl
end Go.Proofs.Ytjgicfkhdclaeaa
