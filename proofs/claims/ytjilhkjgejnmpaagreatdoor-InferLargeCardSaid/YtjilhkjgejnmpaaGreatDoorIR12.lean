import Derived.Test.YtjilhkjgejnmpaaGreatDoorIDb
set_option linter.all false
noncomputable section
/- Runs. -/
namespace Go.Proofs.YtjilhkjgejnmpaaGreatDoor
open Go.J
theorem r59:runP (envL Tryz.prog pol [(44,peekS [e58]),(149,scalS (sizeV 40)),(173,scalS (size16V 40)),(58,outS faultSp),(182,outS isSp)]) 2000 11 e59.1.1 e59.1.2=some e59.2:=by kernel_rfl
theorem r973:runP (envL Tryz.prog pol [(149,scalS (sizeV 40)),(173,scalS (size16V 40)),(58,outS faultSp),(182,outS isSp)]) 2000 90 e973.1.1 e973.1.2=some e973.2:=by kernel_rfl
theorem r1238:runP (envL Tryz.prog pol [(149,scalS (sizeV 40)),(173,scalS (size16V 40)),(58,outS faultSp),(182,outS isSp)]) 2000 91 e1238.1.1 e1238.1.2=some e1238.2:=by kernel_rfl
theorem r1239:runP (envL Tryz.prog pol [(149,scalS (sizeV 40)),(173,scalS (size16V 40)),(58,outS faultSp),(182,outS isSp)]) 2000 91 e1239.1.1 e1239.1.2=some e1239.2:=by kernel_rfl
theorem r1263:runP (envL Tryz.prog pol [(149,scalS (sizeV 40)),(173,scalS (size16V 40)),(58,outS faultSp),(182,outS isSp)]) 2000 91 e1263.1.1 e1263.1.2=some e1263.2:=by kernel_rfl
theorem r1264:runP (envL Tryz.prog pol [(149,scalS (sizeV 40)),(173,scalS (size16V 40)),(58,outS faultSp),(182,outS isSp)]) 2000 91 e1264.1.1 e1264.1.2=some e1264.2:=by kernel_rfl
theorem r1288:runP (envL Tryz.prog pol [(149,scalS (sizeV 40)),(173,scalS (size16V 40)),(58,outS faultSp),(182,outS isSp)]) 2000 91 e1288.1.1 e1288.1.2=some e1288.2:=by kernel_rfl
end Go.Proofs.YtjilhkjgejnmpaaGreatDoor
