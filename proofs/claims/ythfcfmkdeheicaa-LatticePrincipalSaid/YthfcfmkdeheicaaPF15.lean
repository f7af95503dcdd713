import Derived.Test.YthfcfmkdeheicaaPSR
set_option linter.all false
noncomputable section
namespace Go.Proofs.Ythfcfmkdeheicaa
open Go.J
theorem first15:runJ (envL Try.prog pol []) 2000 42 []=some (.bool true):=by kernel_rfl
end Go.Proofs.Ythfcfmkdeheicaa
