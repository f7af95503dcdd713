/- NormalRenames. -/
import Derived.Test.YtfloillkpbhhhaaGreatNNRn
import Derived.Test.YtfloillkpbhhhaaGreatNNRna
import Derived.Test.YtfloillkpbhhhaaGreatNNRnb
set_option linter.all false
noncomputable section
namespace Go.Proofs.YtfloillkpbhhhaaGreat.normalRenames
open Go.J Go.ChangeShapes Go.WideShapes Go.ChangeAt Go.RowKit
open Go.J.bo (enc)
theorem closed:joinedFacts Tryz.prog 5 Tryz.f5 Rows.normalRenamesSpec Rows.normalRenamesRow=true:=by
 unfold joinedFacts;rw[zkQ,zax,zfI,ztE]
 kernel_rfl
theorem N5:Rows.normalRenamesRow.holds Tryz.pinned (OpenSpec.ofChange Rows.normalRenamesSpec) :=
 OpenClaim.holds_of_wide 5 Tryz.f5 rfl rfl rfl rfl rfl rfl rfl ⟨rfl,rfl,rfl,rfl,rfl⟩ rfl rfl rfl rfl rfl (by kernel_rfl) Tryz.func5 closed
  (of_decide_eq_true (by kernel_rfl)) (by unfold Func.isWrapper;first|(rw[if_pos (by decide +kernel)];kernel_rfl)|(rw[if_neg (by decide +kernel)];exact⟨rfl,rfl⟩))
  (λos started H enc _=>lifted os started H enc)
theorem proved:Rows.NormalRenamesSaid :=
 N5
#print axioms proved
end Go.Proofs.YtfloillkpbhhhaaGreat.normalRenames
