import Derived.Test.YtpcmebclpindjaaGreatZSZ
set_option linter.all false
noncomputable section
/- The sanity check of chapter 28's laws. -/
namespace Go.Proofs.YtpcmebclpindjaaGreat
open Go.J
theorem z5N:zw6 (z3i Tryz.prog pol []) 2000 36 []=some (.bool true):=by kernel_rfl
end Go.Proofs.YtpcmebclpindjaaGreat
