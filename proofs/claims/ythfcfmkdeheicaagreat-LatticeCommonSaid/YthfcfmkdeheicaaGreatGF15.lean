import Derived.Test.YthfcfmkdeheicaaGreatGSY
set_option linter.all false
set_option linter.all false
namespace Go.Proofs.YthfcfmkdeheicaaGreat
open Go.J
theorem first15 : runJ (envL Tryz.prog pol []) 2000 19 [] = some (.bool true) := by kernel_rfl
end Go.Proofs.YthfcfmkdeheicaaGreat
