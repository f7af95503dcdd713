import Derived.Test.YthfcfmkdeheicaaPX5
import Derived.Test.YthfcfmkdeheicaaJY
import Derived.Test.YthfcfmkdeheicaaJQ
import Derived.Test.YthfcfmkdeheicaaJW
set_option linter.all false
noncomputable section
/- The law LatticeUnifies: what its function computes. -/
namespace Go.Proofs.Ythfcfmkdeheicaa
open Go.J
open Go.J.Enc (enc)
set_option maxRecDepth 100000
set_option maxHeartbeats 1000000
def vuN (l:List Ty):Option (List Int):=if Ty.oks l=true∧l.length≤10000∧(leavesL 1 l []).length≤10000 then some (varsM l) else none
section
variable {ρ:Nat→Value} (hρ:J.Good ρ) {E:Env} (hE:E.P=Try.prog) (hcon:ConsOk ρ E)
include hρ hE hcon
end
end Go.Proofs.Ythfcfmkdeheicaa
