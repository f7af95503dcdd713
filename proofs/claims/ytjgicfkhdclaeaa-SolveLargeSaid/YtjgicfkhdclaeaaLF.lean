import Derived.Test.YtjgicfkhdclaeaaSRun
import Derived.Test.YtjgicfkhdclaeaaTS
set_option linter.all false
/- What the runs of 'SolveLarge' lean on: its sanity check, run once, and the contracts. -/
namespace Go.Proofs.Ytjgicfkhdclaeaa
open Go.J
noncomputable def envF18 : Env := envL Try.prog pol [(47, quietS (triSize 300 300))]
theorem first18 : runJ envF18 2000 20 [] = some (.bool true) := by kernel_rfl
def trueV18 (vs : List V) : Option V := match vs with | [] => some (.bool true) | _ => none
noncomputable def envS (r : Nat) : Env := envL Try.prog pol [(20, pureS trueV18), (8, conMod 12 r), (47, quietS (triSize 300 300))]
theorem first18_valid {ρ : Nat → Value} (hρ : J.Good ρ) : Valid ρ Try.prog 20 (pureS trueV18) := by
  refine Valid.pure hρ follows named (fnOk Try.func20 (by kernel_rfl)) fun vs v hp hv => ?_
  unfold trueV18 at hv
  split at hv
  · cases hv
    exact ⟨_, 2000, consOk_list (valid_cons (triSize_valid hρ 300 300) valid_nil), rfl, first18⟩
  · cases hv
end Go.Proofs.Ytjgicfkhdclaeaa
