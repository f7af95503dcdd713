import Derived.Test.YtjgicfkhdclaeaaSBF
set_option linter.all false
namespace Go.Proofs.Ytjgicfkhdclaeaa
open Go.J
theorem runB_2 : runJ (envB 2) 2000 3 [.sym 0] = some (.bool true) := by kernel_rfl
theorem runB_8 : runJ (envB 8) 2000 3 [.sym 0] = some (.bool true) := by kernel_rfl
theorem runB_14 : runJ (envB 14) 2000 3 [.sym 0] = some (.bool true) := by kernel_rfl
theorem runB_20 : runJ (envB 20) 2000 3 [.sym 0] = some (.bool true) := by kernel_rfl
theorem runB_26 : runJ (envB 26) 2000 3 [.sym 0] = some (.bool true) := by kernel_rfl
theorem runB_32 : runJ (envB 32) 2000 3 [.sym 0] = some (.bool true) := by kernel_rfl
theorem runB_38 : runJ (envB 38) 2000 3 [.sym 0] = some (.bool true) := by kernel_rfl
theorem runB_44 : runJ (envB 44) 2000 3 [.sym 0] = some (.bool true) := by kernel_rfl
theorem runB_50 : runJ (envB 50) 2000 3 [.sym 0] = some (.bool true) := by kernel_rfl
theorem runB_56 : runJ (envB 56) 2000 3 [.sym 0] = some (.bool true) := by kernel_rfl
end Go.Proofs.Ytjgicfkhdclaeaa
