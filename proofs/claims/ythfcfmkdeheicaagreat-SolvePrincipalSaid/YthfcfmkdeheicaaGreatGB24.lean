import Derived.Test.YthfcfmkdeheicaaGreatGW3
import Derived.Test.YthfcfmkdeheicaaGreatJP
set_option linter.all false
noncomputable section
/- Types made valid;the law StoreOperations: what its function computes. -/
namespace Go.Proofs.YthfcfmkdeheicaaGreat
open Go.J
open Go.J.Enc (enc)
set_option maxRecDepth 100000
set_option maxHeartbeats 4000000
def yesS:J.Spec:=fnS (zlp true)
section
variable {ρ:Nat→Value}(hρ:J.Good ρ){E:Env}(hE:E.P=Tryz.prog)(hcon:ConsOk ρ E)
include hρ hE hcon
end
end Go.Proofs.YthfcfmkdeheicaaGreat
