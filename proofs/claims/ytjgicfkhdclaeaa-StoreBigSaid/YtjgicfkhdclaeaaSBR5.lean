import Derived.Test.YtjgicfkhdclaeaaSBF
set_option linter.all false
namespace Go.Proofs.Ytjgicfkhdclaeaa
open Go.J
theorem runB_5 : runJ (envB 5) 2000 3 [.sym 0] = some (.bool true) := by kernel_rfl
theorem runB_11 : runJ (envB 11) 2000 3 [.sym 0] = some (.bool true) := by kernel_rfl
theorem runB_17 : runJ (envB 17) 2000 3 [.sym 0] = some (.bool true) := by kernel_rfl
theorem runB_23 : runJ (envB 23) 2000 3 [.sym 0] = some (.bool true) := by kernel_rfl
theorem runB_29 : runJ (envB 29) 2000 3 [.sym 0] = some (.bool true) := by kernel_rfl
theorem runB_35 : runJ (envB 35) 2000 3 [.sym 0] = some (.bool true) := by kernel_rfl
theorem runB_41 : runJ (envB 41) 2000 3 [.sym 0] = some (.bool true) := by kernel_rfl
theorem runB_47 : runJ (envB 47) 2000 3 [.sym 0] = some (.bool true) := by kernel_rfl
theorem runB_53 : runJ (envB 53) 2000 3 [.sym 0] = some (.bool true) := by kernel_rfl
theorem runB_59 : runJ (envB 59) 2000 3 [.sym 0] = some (.bool true) := by kernel_rfl
end Go.Proofs.Ytjgicfkhdclaeaa
