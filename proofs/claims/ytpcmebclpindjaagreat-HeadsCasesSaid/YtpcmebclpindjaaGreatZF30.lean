import Derived.Test.YtpcmebclpindjaaGreatZSZ
import Derived.Test.YtpcmebclpindjaaGreatJDefer
set_option linter.all false
noncomputable section
/- The sanity check of chapter 30's laws. -/
namespace Go.Proofs.YtpcmebclpindjaaGreat
open Go.J
def zxc:J.Spec:=zvu (zvs Tryz.prog pol []) 2000 40 72
theorem zlI{ρ:Nat->Value}(hρ:J.Good ρ):Valid ρ Tryz.prog 72 zxc :=
 Valid.defer (E:=zvs Tryz.prog pol []) hρ (zg J.valid_nil) follows named (z1N Tryz.func72 (by kernel_rfl))
theorem zxl:zrw (zvs Tryz.prog pol [(72,zxc)]) 2000 13 []=some (.bool true):=by kernel_rfl
end Go.Proofs.YtpcmebclpindjaaGreat
