import Derived.Test.YtfloillkpbhhhaaGreatNSN
set_option linter.all false
noncomputable section
namespace Go.Proofs.YtfloillkpbhhhaaGreat.normalRenames
open Go.J
def zfI:(Rows.normalRenamesRow.recurses == Tryz.prog.recurses 5)=true:=by kernel_rfl
def ztE:(Rows.normalRenamesRow.named == Tryz.prog.varsNamed 5)=true:=by kernel_rfl
end Go.Proofs.YtfloillkpbhhhaaGreat.normalRenames
