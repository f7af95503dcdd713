import Derived.Test.YtpcmebclpindjaaGreatZSZ
set_option linter.all false
set_option linter.all false
namespace Go.Proofs.YtpcmebclpindjaaGreat.headsCanonical
open Go.J
theorem k_recurses : (Rows.headsCanonicalRow.recurses == Tryz.prog.recurses 3) = true := by kernel_rfl
theorem k_named : (Rows.headsCanonicalRow.named == Tryz.prog.varsNamed 3) = true := by kernel_rfl
end Go.Proofs.YtpcmebclpindjaaGreat.headsCanonical
