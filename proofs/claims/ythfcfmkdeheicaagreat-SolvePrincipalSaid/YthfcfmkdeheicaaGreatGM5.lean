import Derived.Test.YthfcfmkdeheicaaGreatGM4
set_option linter.all false
noncomputable section
namespace Go.Proofs.YthfcfmkdeheicaaGreat
open Go.J
open Go.J.Enc (enc)
set_option maxRecDepth 100000
set_option maxHeartbeats 1000000
def clipNS:J.Spec:=fun vs hs=>match vs with
 | [.snil]=>some (.snil,hs)
 |_=>none
@[simp] theorem clipNS_ok {hs:HS} {Q:V×HS→Prop}:okT (clipNS [.snil] hs) Q=Q (.snil,hs):=by
  show ok (some (V.snil,hs)) Q=_
  rw[zm]
section
variable {ρ:Nat→Value}(hρ:J.Good ρ)
include hρ
section
variable {E:Env}(hE:E.P=Tryz.prog)(hcon:ConsOk ρ E)
include hE hcon
end
end
end Go.Proofs.YthfcfmkdeheicaaGreat
