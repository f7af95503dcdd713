import Derived.Test.YthfcfmkdeheicaaPC5
import Derived.Test.YthfcfmkdeheicaaJL
set_option linter.all false
set_option linter.all false
namespace Go.Proofs.Ythfcfmkdeheicaa
open Go.J
open Go.J.Enc (enc)
set_option maxRecDepth 100000
set_option maxHeartbeats 4000000
section
variable {ρ : Nat → Value} (hρ : J.Good ρ) {E : Env} (hE : E.P = Try.prog) (hcon : ConsOk ρ E)
include hρ hE hcon
theorem types_Var_run {i : Int} (hs : HS) : CallOk ρ Try.prog 63 [enc i] hs (enc (tVar i)) hs := by
  refine fn hρ hE hcon Try.func63 BS_types_Var rfl (by simp) ?_ hs
  simp [S_types_Var_r0, S_types_Var_r1, S_types_Var, hE, tVar]
end
end Go.Proofs.Ythfcfmkdeheicaa
