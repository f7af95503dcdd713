import Derived.Test.YtabhillmocfogaaGreatSMz
set_option linter.all false
set_option linter.all false
namespace Go.Proofs.YtabhillmocfogaaGreat
open Go.J
theorem runN_0_0 : runJ (envL Tryz.prog pol [(20, pureS trueV), (25, conMod [(0, 5, 0), (1, 5, 0)])]) 2000 8 [.sym 0, .sym 1] = some (.bool true) := by kernel_rfl
theorem runN_0_1 : runJ (envL Tryz.prog pol [(20, pureS trueV), (25, conMod [(0, 5, 0), (1, 5, 1)])]) 2000 8 [.sym 0, .sym 1] = some (.bool true) := by kernel_rfl
theorem runN_0_2 : runJ (envL Tryz.prog pol [(20, pureS trueV), (25, conMod [(0, 5, 0), (1, 5, 2)])]) 2000 8 [.sym 0, .sym 1] = some (.bool true) := by kernel_rfl
theorem runN_0_3 : runJ (envL Tryz.prog pol [(20, pureS trueV), (25, conMod [(0, 5, 0), (1, 5, 3)])]) 2000 8 [.sym 0, .sym 1] = some (.bool true) := by kernel_rfl
theorem runN_0_4 : runJ (envL Tryz.prog pol [(20, pureS trueV), (25, conMod [(0, 5, 0), (1, 5, 4)])]) 2000 8 [.sym 0, .sym 1] = some (.bool true) := by kernel_rfl
end Go.Proofs.YtabhillmocfogaaGreat
