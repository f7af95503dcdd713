import Derived.Test.YtpcmebclpindjaaGreatZSZ
set_option linter.all false
noncomputable section
namespace Go.Proofs.YtpcmebclpindjaaGreat.normalClosed
open Go.J
theorem zpe:(Rows.normalClosedRow.recurses == Tryz.prog.recurses 8)=true:=by kernel_rfl
theorem z5a:(Rows.normalClosedRow.named == Tryz.prog.varsNamed 8)=true:=by kernel_rfl
end Go.Proofs.YtpcmebclpindjaaGreat.normalClosed
