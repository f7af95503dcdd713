/- Which names of a context can be analyzed, the program says as the reference does: true at every choice of data declarations and codes; the arguments read afterwards as they read before. No condition. -/
import Derived.Test.YtpcmebclpindjaaGreatZHCs
import Derived.Test.YtpcmebclpindjaaGreatZHCsa
import Derived.Test.YtpcmebclpindjaaGreatZHCsb
set_option linter.all false
noncomputable section
namespace Go.Proofs.YtpcmebclpindjaaGreat.headsCases
open Go.J Go.ChangeShapes Go.WideShapes Go.ChangeAt Go.RowKit
open Go.J.Enc (enc)
theorem closed:joinedFacts Tryz.prog 4 Tryz.f4 Rows.headsCasesSpec Rows.headsCasesRow=true:=by
 unfold joinedFacts;rw[zmY,ziH,zlG,zwD]
 kernel_rfl
theorem over:Rows.headsCasesRow.holds Tryz.pinned (OpenSpec.ofChange Rows.headsCasesSpec) :=
 OpenClaim.holds_of_wide 4 Tryz.f4 rfl rfl rfl rfl rfl rfl rfl ⟨rfl,rfl,rfl,rfl,rfl⟩ rfl rfl rfl rfl rfl (by kernel_rfl) Tryz.func4 closed
  (of_decide_eq_true (by kernel_rfl)) (by unfold Func.isWrapper;first|(rw[if_pos (by decide +kernel)];kernel_rfl)|(rw[if_neg (by decide +kernel)];exact⟨rfl,rfl⟩))
  (fun os started H enc _=>lifted os started H enc)
theorem proved:Rows.HeadsCasesSaid :=
 over
#print axioms proved
end Go.Proofs.YtpcmebclpindjaaGreat.headsCases
