import Derived.Test.YtfloillkpbhhhaaGreatNSN
set_option linter.all false
noncomputable section
namespace Go.Proofs.YtfloillkpbhhhaaGreat
open Go.J
def zul:zjX (zlw Tryz.prog zj []) 2000 20 []=some (.bool true):=by kernel_rfl
end Go.Proofs.YtfloillkpbhhhaaGreat
