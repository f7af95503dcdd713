import Derived.Test.YtpcmebclpindjaaGreatZSZ
set_option linter.all false
noncomputable section
namespace Go.Proofs.YtpcmebclpindjaaGreat.headsCases
open Go.J
theorem zmY:(Rows.headsCasesRow.inPlace == Tryz.prog.inPlace 4)=true:=by kernel_rfl
theorem ziH:(Rows.headsCasesRow.unfollowed == Tryz.prog.unfollowed 4)=true:=by kernel_rfl
end Go.Proofs.YtpcmebclpindjaaGreat.headsCases
