import Derived.Test.YtjgicfkhdclaeaaLF
set_option linter.all false
namespace Go.Proofs.Ytjgicfkhdclaeaa
open Go.J
theorem runS_0 : runJ (envS 0) 2000 5 [.sym 0] = some (.bool true) := by kernel_rfl
theorem runS_2 : runJ (envS 2) 2000 5 [.sym 0] = some (.bool true) := by kernel_rfl
theorem runS_4 : runJ (envS 4) 2000 5 [.sym 0] = some (.bool true) := by kernel_rfl
theorem runS_6 : runJ (envS 6) 2000 5 [.sym 0] = some (.bool true) := by kernel_rfl
theorem runS_8 : runJ (envS 8) 2000 5 [.sym 0] = some (.bool true) := by kernel_rfl
theorem runS_10 : runJ (envS 10) 2000 5 [.sym 0] = some (.bool true) := by kernel_rfl
end Go.Proofs.Ytjgicfkhdclaeaa
