import Derived.Test.YtjilhkjgejnmpaaGreatDoorIDb
set_option linter.all false
noncomputable section
/- Runs. -/
namespace Go.Proofs.YtjilhkjgejnmpaaGreatDoor
open Go.J
theorem r52:runP (envL Tryz.prog pol [(106,peekS [e1,e2,e5,e6,e35,e36,e37]),(149,scalS (sizeV 40)),(173,scalS (size16V 40)),(58,outS faultSp),(182,outS isSp)]) 2000 44 e52.1.1 e52.1.2=some e52.2:=by kernel_rfl
theorem r161:runP (envL Tryz.prog pol [(64,peekS [e160]),(149,scalS (sizeV 40)),(173,scalS (size16V 40)),(58,outS faultSp),(182,outS isSp)]) 2000 181 e161.1.1 e161.1.2=some e161.2:=by kernel_rfl
theorem r1164:runP (envL Tryz.prog pol [(149,scalS (sizeV 40)),(173,scalS (size16V 40)),(58,outS faultSp),(182,outS isSp)]) 2000 91 e1164.1.1 e1164.1.2=some e1164.2:=by kernel_rfl
theorem r1188:runP (envL Tryz.prog pol [(149,scalS (sizeV 40)),(173,scalS (size16V 40)),(58,outS faultSp),(182,outS isSp)]) 2000 91 e1188.1.1 e1188.1.2=some e1188.2:=by kernel_rfl
theorem r1189:runP (envL Tryz.prog pol [(149,scalS (sizeV 40)),(173,scalS (size16V 40)),(58,outS faultSp),(182,outS isSp)]) 2000 91 e1189.1.1 e1189.1.2=some e1189.2:=by kernel_rfl
theorem r1213:runP (envL Tryz.prog pol [(149,scalS (sizeV 40)),(173,scalS (size16V 40)),(58,outS faultSp),(182,outS isSp)]) 2000 91 e1213.1.1 e1213.1.2=some e1213.2:=by kernel_rfl
theorem r1214:runP (envL Tryz.prog pol [(149,scalS (sizeV 40)),(173,scalS (size16V 40)),(58,outS faultSp),(182,outS isSp)]) 2000 91 e1214.1.1 e1214.1.2=some e1214.2:=by kernel_rfl
end Go.Proofs.YtjilhkjgejnmpaaGreatDoor
