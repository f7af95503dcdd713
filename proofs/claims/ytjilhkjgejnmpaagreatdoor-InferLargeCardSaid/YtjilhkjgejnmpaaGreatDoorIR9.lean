import Derived.Test.YtjilhkjgejnmpaaGreatDoorIDb
set_option linter.all false
noncomputable section
/- Runs. -/
namespace Go.Proofs.YtjilhkjgejnmpaaGreatDoor
open Go.J
theorem r8:runP (envL Tryz.prog pol [(44,peekS [e7]),(149,scalS (sizeV 40)),(173,scalS (size16V 40)),(58,outS faultSp),(182,outS isSp)]) 2000 11 e8.1.1 e8.1.2=some e8.2:=by kernel_rfl
theorem r45:runP (envL Tryz.prog pol [(44,peekS [e44]),(149,scalS (sizeV 40)),(173,scalS (size16V 40)),(58,outS faultSp),(182,outS isSp)]) 2000 11 e45.1.1 e45.1.2=some e45.2:=by kernel_rfl
theorem r1068:runP (envL Tryz.prog pol [(149,scalS (sizeV 40)),(173,scalS (size16V 40)),(58,outS faultSp),(182,outS isSp)]) 2000 91 e1068.1.1 e1068.1.2=some e1068.2:=by kernel_rfl
theorem r1114:runP (envL Tryz.prog pol [(149,scalS (sizeV 40)),(173,scalS (size16V 40)),(58,outS faultSp),(182,outS isSp)]) 2000 91 e1114.1.1 e1114.1.2=some e1114.2:=by kernel_rfl
theorem r1115:runP (envL Tryz.prog pol [(169,peekS [e946]),(271,peekS [e956,e968,e980,e992,e1004,e1016]),(90,peekS [e1091,e1092,e1093,e1094,e1095,e1096,e1097,e1098,e1099,e1100,e1101,e1102]),(91,peekS [e1103,e1104,e1105,e1106,e1107,e1108,e1109,e1110,e1111,e1112,e1113,e1114]),(149,scalS (sizeV 40)),(173,scalS (size16V 40)),(58,outS faultSp),(182,outS isSp)]) 2000 14 e1115.1.1 e1115.1.2=some e1115.2:=by kernel_rfl
theorem r1265:runP (envL Tryz.prog pol [(169,peekS [e946]),(271,peekS [e956,e968,e980,e992,e1004,e1016]),(90,peekS [e1241,e1242,e1243,e1244,e1245,e1246,e1247,e1248,e1249,e1250,e1251,e1252]),(91,peekS [e1253,e1254,e1255,e1256,e1257,e1258,e1259,e1260,e1261,e1262,e1263,e1264]),(149,scalS (sizeV 40)),(173,scalS (size16V 40)),(58,outS faultSp),(182,outS isSp)]) 2000 14 e1265.1.1 e1265.1.2=some e1265.2:=by kernel_rfl
end Go.Proofs.YtjilhkjgejnmpaaGreatDoor
