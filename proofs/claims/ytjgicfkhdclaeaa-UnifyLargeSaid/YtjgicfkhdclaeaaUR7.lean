import Derived.Test.YtjgicfkhdclaeaaUF
set_option linter.all false
namespace Go.Proofs.Ytjgicfkhdclaeaa
open Go.J
theorem runU_35_false : runJ (envU 35) 2000 6 [.sym 0, .bool false] = some (.bool true) := by kernel_rfl
theorem runU_35_true : runJ (envU 35) 2000 6 [.sym 0, .bool true] = some (.bool true) := by kernel_rfl
theorem runU_36_false : runJ (envU 36) 2000 6 [.sym 0, .bool false] = some (.bool true) := by kernel_rfl
theorem runU_36_true : runJ (envU 36) 2000 6 [.sym 0, .bool true] = some (.bool true) := by kernel_rfl
theorem runU_37_false : runJ (envU 37) 2000 6 [.sym 0, .bool false] = some (.bool true) := by kernel_rfl
theorem runU_37_true : runJ (envU 37) 2000 6 [.sym 0, .bool true] = some (.bool true) := by kernel_rfl
theorem runU_38_false : runJ (envU 38) 2000 6 [.sym 0, .bool false] = some (.bool true) := by kernel_rfl
theorem runU_38_true : runJ (envU 38) 2000 6 [.sym 0, .bool true] = some (.bool true) := by kernel_rfl
theorem runU_39_false : runJ (envU 39) 2000 6 [.sym 0, .bool false] = some (.bool true) := by kernel_rfl
theorem runU_39_true : runJ (envU 39) 2000 6 [.sym 0, .bool true] = some (.bool true) := by kernel_rfl
end Go.Proofs.Ytjgicfkhdclaeaa
