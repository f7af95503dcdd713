import Derived.Test.YtjilhkjgejnmpaaGreatDoorIDb
set_option linter.all false
noncomputable section
/- Runs. -/
namespace Go.Proofs.YtjilhkjgejnmpaaGreatDoor
open Go.J
theorem r7:runP (envL Tryz.prog pol [(106,peekS [e1,e2,e3,e4,e5,e6]),(149,scalS (sizeV 40)),(173,scalS (size16V 40)),(58,outS faultSp),(182,outS isSp)]) 2000 44 e7.1.1 e7.1.2=some e7.2:=by kernel_rfl
theorem r48:runP (envL Tryz.prog pol [(106,peekS [e1,e2,e5,e6,e35,e36,e37]),(149,scalS (sizeV 40)),(173,scalS (size16V 40)),(58,outS faultSp),(182,outS isSp)]) 2000 44 e48.1.1 e48.1.2=some e48.2:=by kernel_rfl
theorem r50:runP (envL Tryz.prog pol [(106,peekS [e1,e2,e5,e6,e35,e36,e37]),(149,scalS (sizeV 40)),(173,scalS (size16V 40)),(58,outS faultSp),(182,outS isSp)]) 2000 44 e50.1.1 e50.1.2=some e50.2:=by kernel_rfl
theorem r57:runP (envL Tryz.prog pol [(44,peekS [e56]),(149,scalS (sizeV 40)),(173,scalS (size16V 40)),(58,outS faultSp),(182,outS isSp)]) 2000 11 e57.1.1 e57.1.2=some e57.2:=by kernel_rfl
theorem r632:runP (envL Tryz.prog pol [(149,scalS (sizeV 40)),(173,scalS (size16V 40)),(58,outS faultSp),(182,outS isSp)]) 2000 153 e632.1.1 e632.1.2=some e632.2:=by kernel_rfl
theorem r969:runP (envL Tryz.prog pol [(169,peekS [e946,e954,e966]),(90,peekS [e948,e950,e958,e959,e960,e961]),(91,peekS [e951,e952,e962,e963,e964,e965]),(171,peekS [e955,e967]),(271,peekS [e956,e968]),(149,scalS (sizeV 40)),(173,scalS (size16V 40)),(58,outS faultSp),(182,outS isSp)]) 2000 14 e969.1.1 e969.1.2=some e969.2:=by kernel_rfl
theorem r999:runP (envL Tryz.prog pol [(149,scalS (sizeV 40)),(173,scalS (size16V 40)),(58,outS faultSp),(182,outS isSp)]) 2000 91 e999.1.1 e999.1.2=some e999.2:=by kernel_rfl
theorem r1000:runP (envL Tryz.prog pol [(149,scalS (sizeV 40)),(173,scalS (size16V 40)),(58,outS faultSp),(182,outS isSp)]) 2000 91 e1000.1.1 e1000.1.2=some e1000.2:=by kernel_rfl
theorem r1001:runP (envL Tryz.prog pol [(149,scalS (sizeV 40)),(173,scalS (size16V 40)),(58,outS faultSp),(182,outS isSp)]) 2000 91 e1001.1.1 e1001.1.2=some e1001.2:=by kernel_rfl
theorem r1008:runP (envL Tryz.prog pol [(149,scalS (sizeV 40)),(173,scalS (size16V 40)),(58,outS faultSp),(182,outS isSp)]) 2000 90 e1008.1.1 e1008.1.2=some e1008.2:=by kernel_rfl
theorem r1014:runP (envL Tryz.prog pol [(149,scalS (sizeV 40)),(173,scalS (size16V 40)),(58,outS faultSp),(182,outS isSp)]) 2000 169 e1014.1.1 e1014.1.2=some e1014.2:=by kernel_rfl
theorem r1018:runP (envL Tryz.prog pol [(149,scalS (sizeV 40)),(173,scalS (size16V 40)),(58,outS faultSp),(182,outS isSp)]) 2000 90 e1018.1.1 e1018.1.2=some e1018.2:=by kernel_rfl
theorem r1052:runP (envL Tryz.prog pol [(169,peekS [e946]),(271,peekS [e956,e968,e980]),(90,peekS [e1040,e1041,e1042,e1043,e1044,e1045]),(91,peekS [e1046,e1047,e1048,e1049,e1050,e1051]),(149,scalS (sizeV 40)),(173,scalS (size16V 40)),(58,outS faultSp),(182,outS isSp)]) 2000 14 e1052.1.1 e1052.1.2=some e1052.2:=by kernel_rfl
end Go.Proofs.YtjilhkjgejnmpaaGreatDoor
