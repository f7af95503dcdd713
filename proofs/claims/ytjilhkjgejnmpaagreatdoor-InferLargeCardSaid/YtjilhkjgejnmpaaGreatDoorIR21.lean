import Derived.Test.YtjilhkjgejnmpaaGreatDoorIDb
set_option linter.all false
noncomputable section
/- Runs. -/
namespace Go.Proofs.YtjilhkjgejnmpaaGreatDoor
open Go.J
theorem r9:runP (envL Tryz.prog pol [(106,peekS [e1,e2,e3,e4,e5,e6]),(149,scalS (sizeV 40)),(173,scalS (size16V 40)),(58,outS faultSp),(182,outS isSp)]) 2000 44 e9.1.1 e9.1.2=some e9.2:=by kernel_rfl
theorem r13:runP (envL Tryz.prog pol [(106,peekS [e1,e2,e3,e4,e5,e6]),(149,scalS (sizeV 40)),(173,scalS (size16V 40)),(58,outS faultSp),(182,outS isSp)]) 2000 44 e13.1.1 e13.1.2=some e13.2:=by kernel_rfl
theorem r28:runP (envL Tryz.prog pol [(44,peekS [e27]),(149,scalS (sizeV 40)),(173,scalS (size16V 40)),(58,outS faultSp),(182,outS isSp)]) 2000 11 e28.1.1 e28.1.2=some e28.2:=by kernel_rfl
theorem r54:runP (envL Tryz.prog pol [(106,peekS [e1,e2,e5,e6,e35,e36,e37]),(149,scalS (sizeV 40)),(173,scalS (size16V 40)),(58,outS faultSp),(182,outS isSp)]) 2000 44 e54.1.1 e54.1.2=some e54.2:=by kernel_rfl
theorem r56:runP (envL Tryz.prog pol [(106,peekS [e1,e2,e5,e6,e35,e36,e37]),(149,scalS (sizeV 40)),(173,scalS (size16V 40)),(58,outS faultSp),(182,outS isSp)]) 2000 44 e56.1.1 e56.1.2=some e56.2:=by kernel_rfl
theorem r61:runP (envL Tryz.prog pol [(44,peekS [e60]),(149,scalS (sizeV 40)),(173,scalS (size16V 40)),(58,outS faultSp),(182,outS isSp)]) 2000 11 e61.1.1 e61.1.2=some e61.2:=by kernel_rfl
theorem r261:runP (envL Tryz.prog pol [(149,scalS (sizeV 40)),(173,scalS (size16V 40)),(58,outS faultSp),(182,outS isSp)]) 2000 150 e261.1.1 e261.1.2=some e261.2:=by kernel_rfl
theorem r263:runP (envL Tryz.prog pol [(149,scalS (sizeV 40)),(173,scalS (size16V 40)),(58,outS faultSp),(182,outS isSp)]) 2000 153 e263.1.1 e263.1.2=some e263.2:=by kernel_rfl
theorem r264:runP (envL Tryz.prog pol [(149,scalS (sizeV 40)),(173,scalS (size16V 40)),(58,outS faultSp),(182,outS isSp)]) 2000 153 e264.1.1 e264.1.2=some e264.2:=by kernel_rfl
theorem r294:runP (envL Tryz.prog pol [(149,scalS (sizeV 40)),(173,scalS (size16V 40)),(58,outS faultSp),(182,outS isSp)]) 2000 64 e294.1.1 e294.1.2=some e294.2:=by kernel_rfl
theorem r304:runP (envL Tryz.prog pol [(149,scalS (sizeV 40)),(173,scalS (size16V 40)),(58,outS faultSp),(182,outS isSp)]) 2000 64 e304.1.1 e304.1.2=some e304.2:=by kernel_rfl
theorem r305:runP (envL Tryz.prog pol [(64,peekS [e304]),(149,scalS (sizeV 40)),(173,scalS (size16V 40)),(58,outS faultSp),(182,outS isSp)]) 2000 181 e305.1.1 e305.1.2=some e305.2:=by kernel_rfl
theorem r307:runP (envL Tryz.prog pol [(149,scalS (sizeV 40)),(173,scalS (size16V 40)),(58,outS faultSp),(182,outS isSp)]) 2000 213 e307.1.1 e307.1.2=some e307.2:=by kernel_rfl
theorem r1010:runP (envL Tryz.prog pol [(149,scalS (sizeV 40)),(173,scalS (size16V 40)),(58,outS faultSp),(182,outS isSp)]) 2000 91 e1010.1.1 e1010.1.2=some e1010.2:=by kernel_rfl
theorem r1015:runP (envL Tryz.prog pol [(169,peekS [e1014]),(149,scalS (sizeV 40)),(173,scalS (size16V 40)),(58,outS faultSp),(182,outS isSp)]) 2000 171 e1015.1.1 e1015.1.2=some e1015.2:=by kernel_rfl
theorem r1016:runP (envL Tryz.prog pol [(149,scalS (sizeV 40)),(173,scalS (size16V 40)),(58,outS faultSp),(182,outS isSp)]) 2000 271 e1016.1.1 e1016.1.2=some e1016.2:=by kernel_rfl
theorem r1039:runP (envL Tryz.prog pol [(169,peekS [e946]),(271,peekS [e956,e968]),(90,peekS [e1031,e1032,e1033,e1034]),(91,peekS [e1035,e1036,e1037,e1038]),(149,scalS (sizeV 40)),(173,scalS (size16V 40)),(58,outS faultSp),(182,outS isSp)]) 2000 14 e1039.1.1 e1039.1.2=some e1039.2:=by kernel_rfl
theorem r1067:runP (envL Tryz.prog pol [(149,scalS (sizeV 40)),(173,scalS (size16V 40)),(58,outS faultSp),(182,outS isSp)]) 2000 91 e1067.1.1 e1067.1.2=some e1067.2:=by kernel_rfl
theorem r1086:runP (envL Tryz.prog pol [(149,scalS (sizeV 40)),(173,scalS (size16V 40)),(58,outS faultSp),(182,outS isSp)]) 2000 91 e1086.1.1 e1086.1.2=some e1086.2:=by kernel_rfl
end Go.Proofs.YtjilhkjgejnmpaaGreatDoor
