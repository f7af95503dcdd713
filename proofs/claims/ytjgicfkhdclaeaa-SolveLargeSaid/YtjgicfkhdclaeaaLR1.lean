import Derived.Test.YtjgicfkhdclaeaaLF
set_option linter.all false
namespace Go.Proofs.Ytjgicfkhdclaeaa
open Go.J
theorem runS_1 : runJ (envS 1) 2000 5 [.sym 0] = some (.bool true) := by kernel_rfl
theorem runS_3 : runJ (envS 3) 2000 5 [.sym 0] = some (.bool true) := by kernel_rfl
theorem runS_5 : runJ (envS 5) 2000 5 [.sym 0] = some (.bool true) := by kernel_rfl
theorem runS_7 : runJ (envS 7) 2000 5 [.sym 0] = some (.bool true) := by kernel_rfl
theorem runS_9 : runJ (envS 9) 2000 5 [.sym 0] = some (.bool true) := by kernel_rfl
theorem runS_11 : runJ (envS 11) 2000 5 [.sym 0] = some (.bool true) := by kernel_rfl
end Go.Proofs.Ytjgicfkhdclaeaa
