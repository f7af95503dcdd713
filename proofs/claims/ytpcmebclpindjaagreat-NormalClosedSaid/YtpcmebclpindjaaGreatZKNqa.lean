import Derived.Test.YtpcmebclpindjaaGreatZSZ
set_option linter.all false
noncomputable section
namespace Go.Proofs.YtpcmebclpindjaaGreat.normalClosed
open Go.J
theorem zrc:(Rows.normalClosedRow.inPlace == Tryz.prog.inPlace 8)=true:=by kernel_rfl
theorem zkJ:(Rows.normalClosedRow.unfollowed == Tryz.prog.unfollowed 8)=true:=by kernel_rfl
end Go.Proofs.YtpcmebclpindjaaGreat.normalClosed
