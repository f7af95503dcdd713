import Derived.Test.YtfloillkpbhhhaaGreatNSN
set_option linter.all false
noncomputable section
namespace Go.Proofs.YtfloillkpbhhhaaGreat
open Go.J
def zsM:ziM (zkg Tryz.prog wx []) 2000 20 []=some (.bool true):=by kernel_rfl
end Go.Proofs.YtfloillkpbhhhaaGreat
