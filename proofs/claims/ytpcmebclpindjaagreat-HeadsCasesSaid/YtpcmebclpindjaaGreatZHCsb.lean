import Derived.Test.YtpcmebclpindjaaGreatZSZ
set_option linter.all false
noncomputable section
namespace Go.Proofs.YtpcmebclpindjaaGreat.headsCases
open Go.J
theorem zlG:(Rows.headsCasesRow.recurses == Tryz.prog.recurses 4)=true:=by kernel_rfl
theorem zwD:(Rows.headsCasesRow.named == Tryz.prog.varsNamed 4)=true:=by kernel_rfl
end Go.Proofs.YtpcmebclpindjaaGreat.headsCases
