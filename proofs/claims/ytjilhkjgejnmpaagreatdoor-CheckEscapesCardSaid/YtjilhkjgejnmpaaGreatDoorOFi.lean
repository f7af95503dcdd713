import Derived.Test.YtjilhkjgejnmpaaGreatDoorOT0
set_option linter.all false
noncomputable section
/- The sanity check of chapter 22. -/
namespace Go.Proofs.YtjilhkjgejnmpaaGreatDoor
open Go.J
theorem first22:runJ (envL Tryz.prog pol [(20,pureS prgSp),(58,outS faultSp),(182,outS isSp)]) 2000 17 []=some (.bool true):=by kernel_rfl
end Go.Proofs.YtjilhkjgejnmpaaGreatDoor
