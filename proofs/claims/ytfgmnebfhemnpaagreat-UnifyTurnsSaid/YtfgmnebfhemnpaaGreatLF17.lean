import Derived.Test.YtfgmnebfhemnpaaGreatLSX
set_option linter.all false
noncomputable section
/- The sanity check of chapter 17: a kernel run. -/
namespace Go.Proofs.YtfgmnebfhemnpaaGreat
open Go.J
theorem z9r:zze (zFR Tryz.prog pol []) 3000 8 []=some (.bool true):=by kernel_rfl
end Go.Proofs.YtfgmnebfhemnpaaGreat
