import Derived.Test.YtjgicfkhdclaeaaUF
set_option linter.all false
namespace Go.Proofs.Ytjgicfkhdclaeaa
open Go.J
theorem runU_25_false : runJ (envU 25) 2000 6 [.sym 0, .bool false] = some (.bool true) := by kernel_rfl
theorem runU_25_true : runJ (envU 25) 2000 6 [.sym 0, .bool true] = some (.bool true) := by kernel_rfl
theorem runU_26_false : runJ (envU 26) 2000 6 [.sym 0, .bool false] = some (.bool true) := by kernel_rfl
theorem runU_26_true : runJ (envU 26) 2000 6 [.sym 0, .bool true] = some (.bool true) := by kernel_rfl
theorem runU_27_false : runJ (envU 27) 2000 6 [.sym 0, .bool false] = some (.bool true) := by kernel_rfl
theorem runU_27_true : runJ (envU 27) 2000 6 [.sym 0, .bool true] = some (.bool true) := by kernel_rfl
theorem runU_28_false : runJ (envU 28) 2000 6 [.sym 0, .bool false] = some (.bool true) := by kernel_rfl
theorem runU_28_true : runJ (envU 28) 2000 6 [.sym 0, .bool true] = some (.bool true) := by kernel_rfl
theorem runU_29_false : runJ (envU 29) 2000 6 [.sym 0, .bool false] = some (.bool true) := by kernel_rfl
theorem runU_29_true : runJ (envU 29) 2000 6 [.sym 0, .bool true] = some (.bool true) := by kernel_rfl
end Go.Proofs.Ytjgicfkhdclaeaa
