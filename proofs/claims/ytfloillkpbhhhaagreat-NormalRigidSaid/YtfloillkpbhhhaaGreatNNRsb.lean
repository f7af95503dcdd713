import Derived.Test.YtfloillkpbhhhaaGreatNSN
set_option linter.all false
noncomputable section
namespace Go.Proofs.YtfloillkpbhhhaaGreat.normalRigid
open Go.J
def zeD:(Rows.normalRigidRow.recurses == Tryz.prog.recurses 6)=true:=by kernel_rfl
def zsc:(Rows.normalRigidRow.named == Tryz.prog.varsNamed 6)=true:=by kernel_rfl
end Go.Proofs.YtfloillkpbhhhaaGreat.normalRigid
