import Derived.Test.YtjgicfkhdclaeaaSBF
set_option linter.all false
namespace Go.Proofs.Ytjgicfkhdclaeaa
open Go.J
theorem runB_0 : runJ (envB 0) 2000 3 [.sym 0] = some (.bool true) := by kernel_rfl
theorem runB_6 : runJ (envB 6) 2000 3 [.sym 0] = some (.bool true) := by kernel_rfl
theorem runB_12 : runJ (envB 12) 2000 3 [.sym 0] = some (.bool true) := by kernel_rfl
theorem runB_18 : runJ (envB 18) 2000 3 [.sym 0] = some (.bool true) := by kernel_rfl
theorem runB_24 : runJ (envB 24) 2000 3 [.sym 0] = some (.bool true) := by kernel_rfl
theorem runB_30 : runJ (envB 30) 2000 3 [.sym 0] = some (.bool true) := by kernel_rfl
theorem runB_36 : runJ (envB 36) 2000 3 [.sym 0] = some (.bool true) := by kernel_rfl
theorem runB_42 : runJ (envB 42) 2000 3 [.sym 0] = some (.bool true) := by kernel_rfl
theorem runB_48 : runJ (envB 48) 2000 3 [.sym 0] = some (.bool true) := by kernel_rfl
theorem runB_54 : runJ (envB 54) 2000 3 [.sym 0] = some (.bool true) := by kernel_rfl
end Go.Proofs.Ytjgicfkhdclaeaa
