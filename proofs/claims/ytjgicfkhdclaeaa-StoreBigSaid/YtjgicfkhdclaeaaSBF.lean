import Derived.Test.YtjgicfkhdclaeaaSRun
import Derived.Test.YtjgicfkhdclaeaaYRV
set_option linter.all false
/- What the runs of 'StoreBig' lean on: its sanity check, run once, and the contracts. -/
namespace Go.Proofs.Ytjgicfkhdclaeaa
open Go.J
noncomputable def envF16 : Env := envL Try.prog pol [(15, scalS (sizeV 300))]
theorem first16 : runJ envF16 2000 7 [] = some (.bool true) := by kernel_rfl
def trueV (vs : List V) : Option V := match vs with | [] => some (.bool true) | _ => none
noncomputable def envB (r : Nat) : Env := envL Try.prog pol [(7, pureS trueV), (8, conMod 60 r), (15, scalS (sizeV 300)), (14, frzS (resolveV 300))]
theorem first16_valid {ρ : Nat → Value} (hρ : J.Good ρ) : Valid ρ Try.prog 7 (pureS trueV) := by
  refine Valid.pure hρ follows named (fnOk Try.func7 (by kernel_rfl)) fun vs v hp hv => ?_
  unfold trueV at hv
  split at hv
  · cases hv
    exact ⟨_, 2000, consOk_list (valid_cons (size_valid hρ 300) valid_nil), rfl, first16⟩
  · cases hv
end Go.Proofs.Ytjgicfkhdclaeaa
