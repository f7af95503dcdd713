import Derived.Test.YtjgicfkhdclaeaaSBF
set_option linter.all false
namespace Go.Proofs.Ytjgicfkhdclaeaa
open Go.J
theorem runB_1 : runJ (envB 1) 2000 3 [.sym 0] = some (.bool true) := by kernel_rfl
theorem runB_7 : runJ (envB 7) 2000 3 [.sym 0] = some (.bool true) := by kernel_rfl
theorem runB_13 : runJ (envB 13) 2000 3 [.sym 0] = some (.bool true) := by kernel_rfl
theorem runB_19 : runJ (envB 19) 2000 3 [.sym 0] = some (.bool true) := by kernel_rfl
theorem runB_25 : runJ (envB 25) 2000 3 [.sym 0] = some (.bool true) := by kernel_rfl
theorem runB_31 : runJ (envB 31) 2000 3 [.sym 0] = some (.bool true) := by kernel_rfl
theorem runB_37 : runJ (envB 37) 2000 3 [.sym 0] = some (.bool true) := by kernel_rfl
theorem runB_43 : runJ (envB 43) 2000 3 [.sym 0] = some (.bool true) := by kernel_rfl
theorem runB_49 : runJ (envB 49) 2000 3 [.sym 0] = some (.bool true) := by kernel_rfl
theorem runB_55 : runJ (envB 55) 2000 3 [.sym 0] = some (.bool true) := by kernel_rfl
end Go.Proofs.Ytjgicfkhdclaeaa
