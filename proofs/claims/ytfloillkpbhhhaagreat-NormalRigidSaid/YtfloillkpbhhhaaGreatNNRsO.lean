/- A normal term remains normal if a rigid constant becomes Int or another one everywhere: true at every choice of data declarations, b5 and the flag; the arguments read afterwards as they read before. No condition. -/
import Derived.Test.YtfloillkpbhhhaaGreatNNRs
import Derived.Test.YtfloillkpbhhhaaGreatNNRsa
import Derived.Test.YtfloillkpbhhhaaGreatNNRsb
set_option linter.all false
noncomputable section
namespace Go.Proofs.YtfloillkpbhhhaaGreat.normalRigid
open Go.J Go.ChangeShapes Go.WideShapes Go.ChangeAt Go.RowKit
open Go.J.bo (enc)
theorem closed:joinedFacts Tryz.prog 6 Tryz.f6 Rows.normalRigidSpec Rows.normalRigidRow=true:=by
 unfold joinedFacts;rw[zjD,Zd,zeD,zsc]
 kernel_rfl
theorem J0:Rows.normalRigidRow.holds Tryz.pinned (OpenSpec.ofChange Rows.normalRigidSpec) :=
 OpenClaim.holds_of_wide 6 Tryz.f6 rfl rfl rfl rfl rfl rfl rfl ⟨rfl,rfl,rfl,rfl,rfl⟩ rfl rfl rfl rfl rfl (by kernel_rfl) Tryz.func6 closed
  (of_decide_eq_true (by kernel_rfl)) (by unfold Func.isWrapper;first|(rw[if_pos (by decide +kernel)];kernel_rfl)|(rw[if_neg (by decide +kernel)];exact⟨rfl,rfl⟩))
  (λos started H enc _=>lifted os started H enc)
theorem proved:Rows.NormalRigidSaid :=
 J0
#print axioms proved
end Go.Proofs.YtfloillkpbhhhaaGreat.normalRigid
