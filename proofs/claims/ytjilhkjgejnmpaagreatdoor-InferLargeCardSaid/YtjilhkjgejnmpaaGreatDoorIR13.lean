import Derived.Test.YtjilhkjgejnmpaaGreatDoorIDb
set_option linter.all false
noncomputable section
/- Runs. -/
namespace Go.Proofs.YtjilhkjgejnmpaaGreatDoor
open Go.J
theorem r10:runP (envL Tryz.prog pol [(44,peekS [e9]),(149,scalS (sizeV 40)),(173,scalS (size16V 40)),(58,outS faultSp),(182,outS isSp)]) 2000 11 e10.1.1 e10.1.2=some e10.2:=by kernel_rfl
theorem r198:runP (envL Tryz.prog pol [(57,peekS [e94,e116,e149,e182]),(64,peekS [e95,e183]),(134,peekS [e97,e118,e119,e151,e152,e184,e185]),(212,peekS [e100,e130,e131,e162,e195]),(213,peekS [e101,e132,e133,e163,e164,e196,e197]),(150,peekS [e120,e121,e122,e153,e154,e155,e156,e186,e187,e188,e189,e190]),(153,peekS [e124,e158,e191,e192]),(181,peekS [e127,e161,e194]),(50,peekS [e173]),(52,peekS [e181]),(149,scalS (sizeV 40)),(173,scalS (size16V 40)),(58,outS faultSp),(182,outS isSp)]) 2000 13 e198.1.1 e198.1.2=some e198.2:=by kernel_rfl
theorem r664:runP (envL Tryz.prog pol [(149,scalS (sizeV 40)),(173,scalS (size16V 40)),(58,outS faultSp),(182,outS isSp)]) 2000 153 e664.1.1 e664.1.2=some e664.2:=by kernel_rfl
theorem r1215:runP (envL Tryz.prog pol [(169,peekS [e946]),(271,peekS [e956,e968,e980,e992,e1004,e1016]),(90,peekS [e1191,e1192,e1193,e1194,e1195,e1196,e1197,e1198,e1199,e1200,e1201,e1202]),(91,peekS [e1203,e1204,e1205,e1206,e1207,e1208,e1209,e1210,e1211,e1212,e1213,e1214]),(149,scalS (sizeV 40)),(173,scalS (size16V 40)),(58,outS faultSp),(182,outS isSp)]) 2000 14 e1215.1.1 e1215.1.2=some e1215.2:=by kernel_rfl
theorem r1240:runP (envL Tryz.prog pol [(169,peekS [e946]),(271,peekS [e956,e968,e980,e992,e1004,e1016]),(90,peekS [e1216,e1217,e1218,e1219,e1220,e1221,e1222,e1223,e1224,e1225,e1226,e1227]),(91,peekS [e1228,e1229,e1230,e1231,e1232,e1233,e1234,e1235,e1236,e1237,e1238,e1239]),(149,scalS (sizeV 40)),(173,scalS (size16V 40)),(58,outS faultSp),(182,outS isSp)]) 2000 14 e1240.1.1 e1240.1.2=some e1240.2:=by kernel_rfl
theorem r1289:runP (envL Tryz.prog pol [(149,scalS (sizeV 40)),(173,scalS (size16V 40)),(58,outS faultSp),(182,outS isSp)]) 2000 91 e1289.1.1 e1289.1.2=some e1289.2:=by kernel_rfl
end Go.Proofs.YtjilhkjgejnmpaaGreatDoor
