import Derived.Test.YtjilhkjgejnmpaaGreatDoorIDb
set_option linter.all false
noncomputable section
/- Runs. -/
namespace Go.Proofs.YtjilhkjgejnmpaaGreatDoor
open Go.J
theorem r15:runP (envL Tryz.prog pol [(106,peekS [e1,e2,e3,e4,e5,e6]),(149,scalS (sizeV 40)),(173,scalS (size16V 40)),(58,outS faultSp),(182,outS isSp)]) 2000 44 e15.1.1 e15.1.2=some e15.2:=by kernel_rfl
theorem r603:runP (envL Tryz.prog pol [(149,scalS (sizeV 40)),(173,scalS (size16V 40)),(58,outS faultSp),(182,outS isSp)]) 2000 153 e603.1.1 e603.1.2=some e603.2:=by kernel_rfl
theorem r1002:runP (envL Tryz.prog pol [(149,scalS (sizeV 40)),(173,scalS (size16V 40)),(58,outS faultSp),(182,outS isSp)]) 2000 169 e1002.1.1 e1002.1.2=some e1002.2:=by kernel_rfl
theorem r1006:runP (envL Tryz.prog pol [(149,scalS (sizeV 40)),(173,scalS (size16V 40)),(58,outS faultSp),(182,outS isSp)]) 2000 90 e1006.1.1 e1006.1.2=some e1006.2:=by kernel_rfl
theorem r1087:runP (envL Tryz.prog pol [(149,scalS (sizeV 40)),(173,scalS (size16V 40)),(58,outS faultSp),(182,outS isSp)]) 2000 91 e1087.1.1 e1087.1.2=some e1087.2:=by kernel_rfl
theorem r1109:runP (envL Tryz.prog pol [(149,scalS (sizeV 40)),(173,scalS (size16V 40)),(58,outS faultSp),(182,outS isSp)]) 2000 91 e1109.1.1 e1109.1.2=some e1109.2:=by kernel_rfl
theorem r1110:runP (envL Tryz.prog pol [(149,scalS (sizeV 40)),(173,scalS (size16V 40)),(58,outS faultSp),(182,outS isSp)]) 2000 91 e1110.1.1 e1110.1.2=some e1110.2:=by kernel_rfl
theorem r1134:runP (envL Tryz.prog pol [(149,scalS (sizeV 40)),(173,scalS (size16V 40)),(58,outS faultSp),(182,outS isSp)]) 2000 91 e1134.1.1 e1134.1.2=some e1134.2:=by kernel_rfl
theorem r1135:runP (envL Tryz.prog pol [(149,scalS (sizeV 40)),(173,scalS (size16V 40)),(58,outS faultSp),(182,outS isSp)]) 2000 91 e1135.1.1 e1135.1.2=some e1135.2:=by kernel_rfl
theorem r1159:runP (envL Tryz.prog pol [(149,scalS (sizeV 40)),(173,scalS (size16V 40)),(58,outS faultSp),(182,outS isSp)]) 2000 91 e1159.1.1 e1159.1.2=some e1159.2:=by kernel_rfl
theorem r1160:runP (envL Tryz.prog pol [(149,scalS (sizeV 40)),(173,scalS (size16V 40)),(58,outS faultSp),(182,outS isSp)]) 2000 91 e1160.1.1 e1160.1.2=some e1160.2:=by kernel_rfl
theorem r1184:runP (envL Tryz.prog pol [(149,scalS (sizeV 40)),(173,scalS (size16V 40)),(58,outS faultSp),(182,outS isSp)]) 2000 91 e1184.1.1 e1184.1.2=some e1184.2:=by kernel_rfl
theorem r1185:runP (envL Tryz.prog pol [(149,scalS (sizeV 40)),(173,scalS (size16V 40)),(58,outS faultSp),(182,outS isSp)]) 2000 91 e1185.1.1 e1185.1.2=some e1185.2:=by kernel_rfl
theorem r1209:runP (envL Tryz.prog pol [(149,scalS (sizeV 40)),(173,scalS (size16V 40)),(58,outS faultSp),(182,outS isSp)]) 2000 91 e1209.1.1 e1209.1.2=some e1209.2:=by kernel_rfl
theorem r1210:runP (envL Tryz.prog pol [(149,scalS (sizeV 40)),(173,scalS (size16V 40)),(58,outS faultSp),(182,outS isSp)]) 2000 91 e1210.1.1 e1210.1.2=some e1210.2:=by kernel_rfl
theorem r1234:runP (envL Tryz.prog pol [(149,scalS (sizeV 40)),(173,scalS (size16V 40)),(58,outS faultSp),(182,outS isSp)]) 2000 91 e1234.1.1 e1234.1.2=some e1234.2:=by kernel_rfl
theorem r1235:runP (envL Tryz.prog pol [(149,scalS (sizeV 40)),(173,scalS (size16V 40)),(58,outS faultSp),(182,outS isSp)]) 2000 91 e1235.1.1 e1235.1.2=some e1235.2:=by kernel_rfl
theorem r1259:runP (envL Tryz.prog pol [(149,scalS (sizeV 40)),(173,scalS (size16V 40)),(58,outS faultSp),(182,outS isSp)]) 2000 91 e1259.1.1 e1259.1.2=some e1259.2:=by kernel_rfl
theorem r1260:runP (envL Tryz.prog pol [(149,scalS (sizeV 40)),(173,scalS (size16V 40)),(58,outS faultSp),(182,outS isSp)]) 2000 91 e1260.1.1 e1260.1.2=some e1260.2:=by kernel_rfl
theorem r1284:runP (envL Tryz.prog pol [(149,scalS (sizeV 40)),(173,scalS (size16V 40)),(58,outS faultSp),(182,outS isSp)]) 2000 91 e1284.1.1 e1284.1.2=some e1284.2:=by kernel_rfl
theorem r1285:runP (envL Tryz.prog pol [(149,scalS (sizeV 40)),(173,scalS (size16V 40)),(58,outS faultSp),(182,outS isSp)]) 2000 91 e1285.1.1 e1285.1.2=some e1285.2:=by kernel_rfl
end Go.Proofs.YtjilhkjgejnmpaaGreatDoor
