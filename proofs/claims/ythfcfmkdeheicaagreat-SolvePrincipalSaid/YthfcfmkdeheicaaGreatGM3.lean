import Derived.Test.YthfcfmkdeheicaaGreatGM1
import Derived.Test.YthfcfmkdeheicaaGreatJS
import Derived.Test.YthfcfmkdeheicaaGreatJN
set_option linter.all false
noncomputable section
namespace Go.Proofs.YthfcfmkdeheicaaGreat
open Go.J
open Go.J.Enc (enc)
set_option maxRecDepth 100000
set_option maxHeartbeats 1000000
def idxF{α:Type}(f:α→Bool):List α→Int→Int
 | [],_=>-1
 |x::l,i=>if f x=true then i else idxF f l (i+1)
section
variable {ρ:Nat→Value}(hρ:J.Good ρ)
include hρ
end
section
variable {ρ:Nat→Value}(hρ:J.Good ρ)
include hρ
section
variable {E:Env}(hE:E.P=Tryz.prog)(hcon:ConsOk ρ E)
include hE hcon
end
end
section
variable {ρ:Nat→Value}(hρ:J.Good ρ)
include hρ
end
end Go.Proofs.YthfcfmkdeheicaaGreat
