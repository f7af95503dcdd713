import Derived.Test.YtpcmebclpindjaaGreatZSZ
set_option linter.all false
noncomputable section
namespace Go.Proofs.YtpcmebclpindjaaGreat.normalShapes
open Go.J
theorem zon:(Rows.normalShapesRow.inPlace == Tryz.prog.inPlace 7)=true:=by kernel_rfl
theorem zjx:(Rows.normalShapesRow.unfollowed == Tryz.prog.unfollowed 7)=true:=by kernel_rfl
end Go.Proofs.YtpcmebclpindjaaGreat.normalShapes
