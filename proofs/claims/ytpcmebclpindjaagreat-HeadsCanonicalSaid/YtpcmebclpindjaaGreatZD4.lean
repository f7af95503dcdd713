import Derived.Test.YtpcmebclpindjaaGreatZD3
set_option linter.all false
set_option linter.all false
namespace Go.Proofs.YtpcmebclpindjaaGreat
open Go.J
open Go.J.Enc (enc)
set_option maxRecDepth 100000
set_option maxHeartbeats 1000000
/-- the types that may stand at leaves -/
def leavesTs : List Ty := [tVar 0, tVar 1, tVar 2, tVar 3, tRigid 0 0, tRigid 1 0, tRigid (-1) 2, tBound 0]
/-- what make.Vars gives is handed on raw -/
noncomputable def polV (f : FuncId) : Nat := bi (Nat.beq f 25) 1 (pol f)
theorem leaves_run : ((runJ (envL Tryz.prog polV []) 200 17 []).map normV) = some (enc leavesTs) := by kernel_rfl
section
variable {ρ : Nat → Value} (hρ : J.Good ρ)
include hρ
theorem vMkLeaves : Valid ρ Tryz.prog 17 (fnS (spec0 leavesTs)) := v0 (fnOk Tryz.func17 (by kernel_rfl)) fun hs => by
  obtain ⟨v, h1, h2⟩ := Option.map_eq_some_iff.1 leaves_run
  exact call_norm (pure_callOk hρ (E := envL Tryz.prog polV []) (consOk_list valid_nil) follows named h1 rfl) h2
end
end Go.Proofs.YtpcmebclpindjaaGreat
