import Derived.Test.YthfcfmkdeheicaaGreatGM5
import Derived.Test.YthfcfmkdeheicaaGreatJQ
import Derived.Test.YthfcfmkdeheicaaGreatJZ2
import Derived.Test.YthfcfmkdeheicaaGreatJN
import Derived.Test.YthfcfmkdeheicaaGreatGW5
set_option linter.all false
noncomputable section
namespace Go.Proofs.YthfcfmkdeheicaaGreat
open Go.J
open Go.J.Enc (enc)
set_option maxRecDepth 100000
set_option maxHeartbeats 1000000
open Classical in
def substF(t:Tp)(D:List Decl)(n:Int):Option (Tp×List Assign):=if t.ok∧DOk D∧0≤n∧n≤100 then some (zam t D n.toNat n.toNat)else none
section
variable {ρ:Nat→Value}(hρ:J.Good ρ)
include hρ
section
variable {E:Env}(hE:E.P=Tryz.prog)(hcon:ConsOk ρ E)
include hE hcon
end
end
end Go.Proofs.YthfcfmkdeheicaaGreat
