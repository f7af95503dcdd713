import Derived.Test.YtfloillkpbhhhaaGreatNSN
set_option linter.all false
noncomputable section
namespace Go.Proofs.YtfloillkpbhhhaaGreat.normalRigid
open Go.J
def zjD:(Rows.normalRigidRow.inPlace == Tryz.prog.inPlace 6)=true:=by kernel_rfl
def Zd:(Rows.normalRigidRow.unfollowed == Tryz.prog.unfollowed 6)=true:=by kernel_rfl
end Go.Proofs.YtfloillkpbhhhaaGreat.normalRigid
