import Derived.Test.YtjgicfkhdclaeaaSBF
set_option linter.all false
namespace Go.Proofs.Ytjgicfkhdclaeaa
open Go.J
theorem runB_4 : runJ (envB 4) 2000 3 [.sym 0] = some (.bool true) := by kernel_rfl
theorem runB_10 : runJ (envB 10) 2000 3 [.sym 0] = some (.bool true) := by kernel_rfl
theorem runB_16 : runJ (envB 16) 2000 3 [.sym 0] = some (.bool true) := by kernel_rfl
theorem runB_22 : runJ (envB 22) 2000 3 [.sym 0] = some (.bool true) := by kernel_rfl
theorem runB_28 : runJ (envB 28) 2000 3 [.sym 0] = some (.bool true) := by kernel_rfl
theorem runB_34 : runJ (envB 34) 2000 3 [.sym 0] = some (.bool true) := by kernel_rfl
theorem runB_40 : runJ (envB 40) 2000 3 [.sym 0] = some (.bool true) := by kernel_rfl
theorem runB_46 : runJ (envB 46) 2000 3 [.sym 0] = some (.bool true) := by kernel_rfl
theorem runB_52 : runJ (envB 52) 2000 3 [.sym 0] = some (.bool true) := by kernel_rfl
theorem runB_58 : runJ (envB 58) 2000 3 [.sym 0] = some (.bool true) := by kernel_rfl
end Go.Proofs.Ytjgicfkhdclaeaa
