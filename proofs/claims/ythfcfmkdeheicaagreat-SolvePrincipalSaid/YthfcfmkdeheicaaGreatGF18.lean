import Derived.Test.YthfcfmkdeheicaaGreatGSY
set_option linter.all false
noncomputable section
namespace Go.Proofs.YthfcfmkdeheicaaGreat
open Go.J
theorem first18:runJ (envL Tryz.prog pol []) 2000 28 []=some (.bool true):=by kernel_rfl
end Go.Proofs.YthfcfmkdeheicaaGreat
