import Derived.Test.YthfcfmkdeheicaaGreatGB24
set_option linter.all false
noncomputable section
/- The contracts that the laws on stores use,joined. -/
namespace Go.Proofs.YthfcfmkdeheicaaGreat
open Go.J
open Go.J.Enc (enc)
set_option maxRecDepth 100000
set_option maxHeartbeats 1000000
section
variable {ρ:Nat→Value}(hρ:J.Good ρ)
include hρ
theorem vTVar:Valid ρ Tryz.prog 86 (fnS (zan fun i:Int=>some (zA i))):=v1 (fo Tryz.func86 fB86) fun a r h hs=>by
 cases h;exact types_Var_run hρ (E:=EL []) rfl (zg valid_nil) hs
end
end Go.Proofs.YthfcfmkdeheicaaGreat
