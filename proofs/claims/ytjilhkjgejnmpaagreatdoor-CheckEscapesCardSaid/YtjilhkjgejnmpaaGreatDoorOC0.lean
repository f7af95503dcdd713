import Derived.Test.YtjilhkjgejnmpaaGreatDoorOT0
set_option linter.all false
noncomputable section
/- Cases. -/
namespace Go.Proofs.YtjilhkjgejnmpaaGreatDoor
open Go.J
theorem runC_0_false:runJ (envL Tryz.prog pol [(17,pureS trueV),(6,conMod [(0,5,0)]),(20,pureS prgSp),(58,outS faultSp),(182,outS isSp)]) 2000 4 [.sym 0,.bool false]=some (.bool true):=by kernel_rfl
theorem runC_0_true:runJ (envL Tryz.prog pol [(17,pureS trueV),(6,conMod [(0,5,0)]),(20,pureS prgSp),(58,outS faultSp),(182,outS isSp)]) 2000 4 [.sym 0,.bool true]=some (.bool true):=by kernel_rfl
end Go.Proofs.YtjilhkjgejnmpaaGreatDoor
