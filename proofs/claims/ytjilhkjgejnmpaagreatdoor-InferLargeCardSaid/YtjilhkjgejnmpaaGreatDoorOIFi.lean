import Derived.Test.YtjilhkjgejnmpaaGreatDoorOYa
import Derived.Test.YtjilhkjgejnmpaaGreatDoorOSa
set_option linter.all false
noncomputable section
/- The sanity check of chapter 21. -/
namespace Go.Proofs.YtjilhkjgejnmpaaGreatDoor
open Go.J
theorem first21:runJ (envL Tryz.prog pol [(149,scalS (sizeV 40)),(173,scalS (size16V 40)),(58,outS faultSp),(182,outS isSp)]) 2000 5 []=some (.bool true):=by kernel_rfl
end Go.Proofs.YtjilhkjgejnmpaaGreatDoor
