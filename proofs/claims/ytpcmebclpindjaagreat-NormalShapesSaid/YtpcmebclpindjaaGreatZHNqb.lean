import Derived.Test.YtpcmebclpindjaaGreatZSZ
set_option linter.all false
noncomputable section
namespace Go.Proofs.YtpcmebclpindjaaGreat.normalShapes
open Go.J
theorem zmE:(Rows.normalShapesRow.recurses == Tryz.prog.recurses 7)=true:=by kernel_rfl
theorem zz6:(Rows.normalShapesRow.named == Tryz.prog.varsNamed 7)=true:=by kernel_rfl
end Go.Proofs.YtpcmebclpindjaaGreat.normalShapes
