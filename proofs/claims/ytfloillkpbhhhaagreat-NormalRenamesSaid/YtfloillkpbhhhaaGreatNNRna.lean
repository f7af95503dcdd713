import Derived.Test.YtfloillkpbhhhaaGreatNSN
set_option linter.all false
noncomputable section
namespace Go.Proofs.YtfloillkpbhhhaaGreat.normalRenames
open Go.J
def zkQ:(Rows.normalRenamesRow.inPlace == Tryz.prog.inPlace 5)=true:=by kernel_rfl
def zax:(Rows.normalRenamesRow.unfollowed == Tryz.prog.unfollowed 5)=true:=by kernel_rfl
end Go.Proofs.YtfloillkpbhhhaaGreat.normalRenames
