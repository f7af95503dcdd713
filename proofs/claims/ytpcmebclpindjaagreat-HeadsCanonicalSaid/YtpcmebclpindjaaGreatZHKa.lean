import Derived.Test.YtpcmebclpindjaaGreatZSZ
set_option linter.all false
set_option linter.all false
namespace Go.Proofs.YtpcmebclpindjaaGreat.headsCanonical
open Go.J
theorem k_inPlace : (Rows.headsCanonicalRow.inPlace == Tryz.prog.inPlace 3) = true := by kernel_rfl
theorem k_unfollowed : (Rows.headsCanonicalRow.unfollowed == Tryz.prog.unfollowed 3) = true := by kernel_rfl
end Go.Proofs.YtpcmebclpindjaaGreat.headsCanonical
