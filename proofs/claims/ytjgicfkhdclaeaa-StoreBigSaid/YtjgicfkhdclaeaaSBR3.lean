import Derived.Test.YtjgicfkhdclaeaaSBF
set_option linter.all false
namespace Go.Proofs.Ytjgicfkhdclaeaa
open Go.J
theorem runB_3 : runJ (envB 3) 2000 3 [.sym 0] = some (.bool true) := by kernel_rfl
theorem runB_9 : runJ (envB 9) 2000 3 [.sym 0] = some (.bool true) := by kernel_rfl
theorem runB_15 : runJ (envB 15) 2000 3 [.sym 0] = some (.bool true) := by kernel_rfl
theorem runB_21 : runJ (envB 21) 2000 3 [.sym 0] = some (.bool true) := by kernel_rfl
theorem runB_27 : runJ (envB 27) 2000 3 [.sym 0] = some (.bool true) := by kernel_rfl
theorem runB_33 : runJ (envB 33) 2000 3 [.sym 0] = some (.bool true) := by kernel_rfl
theorem runB_39 : runJ (envB 39) 2000 3 [.sym 0] = some (.bool true) := by kernel_rfl
theorem runB_45 : runJ (envB 45) 2000 3 [.sym 0] = some (.bool true) := by kernel_rfl
theorem runB_51 : runJ (envB 51) 2000 3 [.sym 0] = some (.bool true) := by kernel_rfl
theorem runB_57 : runJ (envB 57) 2000 3 [.sym 0] = some (.bool true) := by kernel_rfl
end Go.Proofs.Ytjgicfkhdclaeaa
