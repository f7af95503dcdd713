import Derived.Test.YtabhillmocfogaaGreatSMz
set_option linter.all false
namespace Go.Proofs.YtabhillmocfogaaGreat
open Go.J
theorem first28 : runJ (envL Tryz.prog pol []) 2000 20 [] = some (.bool true) := by kernel_rfl
end Go.Proofs.YtabhillmocfogaaGreat
