import Derived.Test.YtjilhkjgejnmpaaGreatDoorIDb
set_option linter.all false
noncomputable section
/- Runs. -/
namespace Go.Proofs.YtjilhkjgejnmpaaGreatDoor
open Go.J
theorem r14:runP (envL Tryz.prog pol [(44,peekS [e13]),(149,scalS (sizeV 40)),(173,scalS (size16V 40)),(58,outS faultSp),(182,outS isSp)]) 2000 11 e14.1.1 e14.1.2=some e14.2:=by kernel_rfl
theorem r38:runP (envL Tryz.prog pol [(106,peekS [e1,e2,e5,e6,e35,e36,e37]),(149,scalS (sizeV 40)),(173,scalS (size16V 40)),(58,outS faultSp),(182,outS isSp)]) 2000 44 e38.1.1 e38.1.2=some e38.2:=by kernel_rfl
theorem r40:runP (envL Tryz.prog pol [(106,peekS [e1,e2,e5,e6,e35,e36,e37]),(149,scalS (sizeV 40)),(173,scalS (size16V 40)),(58,outS faultSp),(182,outS isSp)]) 2000 44 e40.1.1 e40.1.2=some e40.2:=by kernel_rfl
theorem r89:runP (envL Tryz.prog pol [(106,peekS [e3,e4,e37,e66,e67,e68,e69,e70,e71,e72,e73,e74,e75,e76,e77,e78,e79,e80,e81,e82,e83,e84,e85,e86,e87,e88]),(149,scalS (sizeV 40)),(173,scalS (size16V 40)),(58,outS faultSp),(182,outS isSp)]) 2000 44 e89.1.1 e89.1.2=some e89.2:=by kernel_rfl
theorem r90:runP (envL Tryz.prog pol [(44,peekS [e89]),(149,scalS (sizeV 40)),(173,scalS (size16V 40)),(58,outS faultSp),(182,outS isSp)]) 2000 12 e90.1.1 e90.1.2=some e90.2:=by kernel_rfl
theorem r101:runP (envL Tryz.prog pol [(149,scalS (sizeV 40)),(173,scalS (size16V 40)),(58,outS faultSp),(182,outS isSp)]) 2000 213 e101.1.1 e101.1.2=some e101.2:=by kernel_rfl
theorem r233:runP (envL Tryz.prog pol [(57,peekS [e94,e116,e149,e182,e217]),(64,peekS [e95,e218]),(134,peekS [e97,e118,e119,e151,e152,e184,e185,e219,e220]),(212,peekS [e100,e130,e131,e162,e195,e230]),(213,peekS [e101,e132,e133,e163,e164,e196,e197,e231,e232]),(150,peekS [e120,e121,e122,e153,e154,e155,e156,e186,e187,e188,e189,e221,e222,e223,e224,e225]),(153,peekS [e124,e158,e191,e226,e227]),(181,peekS [e127,e161,e194,e229]),(50,peekS [e207]),(52,peekS [e216]),(149,scalS (sizeV 40)),(173,scalS (size16V 40)),(58,outS faultSp),(182,outS isSp)]) 2000 13 e233.1.1 e233.1.2=some e233.2:=by kernel_rfl
theorem r1090:runP (envL Tryz.prog pol [(169,peekS [e946]),(271,peekS [e956,e968,e980,e992,e1004]),(90,peekS [e1070,e1071,e1072,e1073,e1074,e1075,e1076,e1077,e1078,e1079]),(91,peekS [e1080,e1081,e1082,e1083,e1084,e1085,e1086,e1087,e1088,e1089]),(149,scalS (sizeV 40)),(173,scalS (size16V 40)),(58,outS faultSp),(182,outS isSp)]) 2000 14 e1090.1.1 e1090.1.2=some e1090.2:=by kernel_rfl
end Go.Proofs.YtjilhkjgejnmpaaGreatDoor
