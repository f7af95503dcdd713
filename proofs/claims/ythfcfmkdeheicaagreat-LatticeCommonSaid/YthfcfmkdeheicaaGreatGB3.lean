import Derived.Test.YthfcfmkdeheicaaGreatGC5
import Derived.Test.YthfcfmkdeheicaaGreatJL
set_option linter.all false
set_option linter.all false
namespace Go.Proofs.YthfcfmkdeheicaaGreat
open Go.J
open Go.J.Enc (enc)
set_option maxRecDepth 100000
set_option maxHeartbeats 4000000
section
variable {ρ : Nat → Value} (hρ : J.Good ρ) {E : Env} (hE : E.P = Tryz.prog) (hcon : ConsOk ρ E)
include hρ hE hcon
theorem types_Var_run {i : Int} (hs : HS) : CallOk ρ Tryz.prog 86 [enc i] hs (enc (tVar i)) hs := by
  refine fn hρ hE hcon Tryz.func86 fB86 rfl (by simp) ?_ hs
  simp [fS86r0, fS86r1, fS86, hE, tVar]
end
end Go.Proofs.YthfcfmkdeheicaaGreat
