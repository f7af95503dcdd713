import Derived.Test.YtfgmnebfhemnpaaKSK
set_option linter.all false
noncomputable section
namespace Go.Proofs.Ytfgmnebfhemnpaa
open Go.J
theorem first18:runJ (envL Try.prog pol []) 2000 4 []=some (.bool true):=by kernel_rfl
end Go.Proofs.Ytfgmnebfhemnpaa
