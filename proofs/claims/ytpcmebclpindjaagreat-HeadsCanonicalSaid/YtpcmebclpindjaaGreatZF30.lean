import Derived.Test.YtpcmebclpindjaaGreatZSZ
import Derived.Test.YtpcmebclpindjaaGreatJDefer
set_option linter.all false
/- The sanity check of chapter 30's laws. -/
set_option linter.all false
namespace Go.Proofs.YtpcmebclpindjaaGreat
open Go.J
noncomputable def headS : J.Spec := deferS (envL Tryz.prog pol []) 2000 40 72
theorem head_valid {ρ : Nat → Value} (hρ : J.Good ρ) : Valid ρ Tryz.prog 72 headS :=
  Valid.defer (E := envL Tryz.prog pol []) hρ (consOk_list J.valid_nil) follows named (fnOk Tryz.func72 (by kernel_rfl))
theorem first30 : runJ (envL Tryz.prog pol [(72, headS)]) 2000 13 [] = some (.bool true) := by kernel_rfl
end Go.Proofs.YtpcmebclpindjaaGreat
