import Derived.Test.YtjilhkjgejnmpaaGreatDoorIDb
set_option linter.all false
noncomputable section
/- Runs. -/
namespace Go.Proofs.YtjilhkjgejnmpaaGreatDoor
open Go.J
theorem r11:runP (envL Tryz.prog pol [(106,peekS [e1,e2,e3,e4,e5,e6]),(149,scalS (sizeV 40)),(173,scalS (size16V 40)),(58,outS faultSp),(182,outS isSp)]) 2000 44 e11.1.1 e11.1.2=some e11.2:=by kernel_rfl
theorem r22:runP (envL Tryz.prog pol [(44,peekS [e21]),(149,scalS (sizeV 40)),(173,scalS (size16V 40)),(58,outS faultSp),(182,outS isSp)]) 2000 11 e22.1.1 e22.1.2=some e22.2:=by kernel_rfl
theorem r580:runP (envL Tryz.prog pol [(57,peekS [e94]),(64,peekS [e95,e183]),(134,peekS [e97,e119]),(212,peekS [e100,e130]),(213,peekS [e101,e133,e164,e559]),(50,peekS [e566]),(52,peekS [e572]),(150,peekS [e573,e574,e575,e576,e577,e578]),(153,peekS [e579]),(149,scalS (sizeV 40)),(173,scalS (size16V 40)),(58,outS faultSp),(182,outS isSp)]) 2000 13 e580.1.1 e580.1.2=some e580.2:=by kernel_rfl
theorem r1088:runP (envL Tryz.prog pol [(149,scalS (sizeV 40)),(173,scalS (size16V 40)),(58,outS faultSp),(182,outS isSp)]) 2000 91 e1088.1.1 e1088.1.2=some e1088.2:=by kernel_rfl
theorem r1089:runP (envL Tryz.prog pol [(149,scalS (sizeV 40)),(173,scalS (size16V 40)),(58,outS faultSp),(182,outS isSp)]) 2000 91 e1089.1.1 e1089.1.2=some e1089.2:=by kernel_rfl
theorem r1111:runP (envL Tryz.prog pol [(149,scalS (sizeV 40)),(173,scalS (size16V 40)),(58,outS faultSp),(182,outS isSp)]) 2000 91 e1111.1.1 e1111.1.2=some e1111.2:=by kernel_rfl
theorem r1112:runP (envL Tryz.prog pol [(149,scalS (sizeV 40)),(173,scalS (size16V 40)),(58,outS faultSp),(182,outS isSp)]) 2000 91 e1112.1.1 e1112.1.2=some e1112.2:=by kernel_rfl
theorem r1136:runP (envL Tryz.prog pol [(149,scalS (sizeV 40)),(173,scalS (size16V 40)),(58,outS faultSp),(182,outS isSp)]) 2000 91 e1136.1.1 e1136.1.2=some e1136.2:=by kernel_rfl
theorem r1137:runP (envL Tryz.prog pol [(149,scalS (sizeV 40)),(173,scalS (size16V 40)),(58,outS faultSp),(182,outS isSp)]) 2000 91 e1137.1.1 e1137.1.2=some e1137.2:=by kernel_rfl
theorem r1161:runP (envL Tryz.prog pol [(149,scalS (sizeV 40)),(173,scalS (size16V 40)),(58,outS faultSp),(182,outS isSp)]) 2000 91 e1161.1.1 e1161.1.2=some e1161.2:=by kernel_rfl
theorem r1162:runP (envL Tryz.prog pol [(149,scalS (sizeV 40)),(173,scalS (size16V 40)),(58,outS faultSp),(182,outS isSp)]) 2000 91 e1162.1.1 e1162.1.2=some e1162.2:=by kernel_rfl
end Go.Proofs.YtjilhkjgejnmpaaGreatDoor
