import Derived.Test.YthfcfmkdeheicaaPX4
import Derived.Test.YthfcfmkdeheicaaJQ
set_option linter.all false
noncomputable section
namespace Go.Proofs.Ythfcfmkdeheicaa
open Go.J
open Go.J.Enc (enc)
set_option maxRecDepth 100000
set_option maxHeartbeats 1000000
@[simp] theorem func_pure {f:Nat}:(V.func f []).pure=true:=(rfl)
@[simp] theorem func_still {f:Nat} {hs:HS}:still2 hs (V.func f [])=some (V.func f []):=(rfl)
@[simp] theorem func_freeze {f:Nat} {hs:HS}:freeze1 hs (V.func f [])=hs:=(rfl)
@[simp] theorem func_norm {f:Nat}:normV (V.func f [])=.func f []:=(rfl)
section
variable {ρ:Nat→Value} (hρ:J.Good ρ)
include hρ
section
variable {E:Env} (hE:E.P=Try.prog) (hcon:ConsOk ρ E)
include hE hcon
end
section
variable {E:Env} (hE:E.P=Try.prog) (hcon:ConsOk ρ E)
include hE hcon
end
section
variable {E:Env} (hE:E.P=Try.prog) (hcon:ConsOk ρ E)
include hE hcon
end
end
end Go.Proofs.Ythfcfmkdeheicaa
