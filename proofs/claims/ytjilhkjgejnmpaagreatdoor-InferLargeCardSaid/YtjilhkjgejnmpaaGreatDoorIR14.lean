import Derived.Test.YtjilhkjgejnmpaaGreatDoorIDb
set_option linter.all false
noncomputable section
/- Runs. -/
namespace Go.Proofs.YtjilhkjgejnmpaaGreatDoor
open Go.J
theorem r12:runP (envL Tryz.prog pol [(44,peekS [e11]),(149,scalS (sizeV 40)),(173,scalS (size16V 40)),(58,outS faultSp),(182,outS isSp)]) 2000 11 e12.1.1 e12.1.2=some e12.2:=by kernel_rfl
theorem r29:runP (envL Tryz.prog pol [(106,peekS [e1,e2,e3,e4,e5,e6]),(149,scalS (sizeV 40)),(173,scalS (size16V 40)),(58,outS faultSp),(182,outS isSp)]) 2000 44 e29.1.1 e29.1.2=some e29.2:=by kernel_rfl
theorem r47:runP (envL Tryz.prog pol [(44,peekS [e46]),(149,scalS (sizeV 40)),(173,scalS (size16V 40)),(58,outS faultSp),(182,outS isSp)]) 2000 11 e47.1.1 e47.1.2=some e47.2:=by kernel_rfl
theorem r49:runP (envL Tryz.prog pol [(44,peekS [e48]),(149,scalS (sizeV 40)),(173,scalS (size16V 40)),(58,outS faultSp),(182,outS isSp)]) 2000 11 e49.1.1 e49.1.2=some e49.2:=by kernel_rfl
theorem r993:runP (envL Tryz.prog pol [(169,peekS [e946,e954,e966,e978,e990]),(90,peekS [e948,e950,e958,e959,e961,e970,e971,e973,e982,e983,e984,e985]),(91,peekS [e951,e952,e962,e963,e964,e974,e975,e976,e986,e987,e988,e989]),(171,peekS [e955,e967,e979,e991]),(271,peekS [e956,e968,e980,e992]),(149,scalS (sizeV 40)),(173,scalS (size16V 40)),(58,outS faultSp),(182,outS isSp)]) 2000 14 e993.1.1 e993.1.2=some e993.2:=by kernel_rfl
theorem r1165:runP (envL Tryz.prog pol [(169,peekS [e946]),(271,peekS [e956,e968,e980,e992,e1004,e1016]),(90,peekS [e1141,e1142,e1143,e1144,e1145,e1146,e1147,e1148,e1149,e1150,e1151,e1152]),(91,peekS [e1153,e1154,e1155,e1156,e1157,e1158,e1159,e1160,e1161,e1162,e1163,e1164]),(149,scalS (sizeV 40)),(173,scalS (size16V 40)),(58,outS faultSp),(182,outS isSp)]) 2000 14 e1165.1.1 e1165.1.2=some e1165.2:=by kernel_rfl
theorem r1190:runP (envL Tryz.prog pol [(169,peekS [e946]),(271,peekS [e956,e968,e980,e992,e1004,e1016]),(90,peekS [e1166,e1167,e1168,e1169,e1170,e1171,e1172,e1173,e1174,e1175,e1176,e1177]),(91,peekS [e1178,e1179,e1180,e1181,e1182,e1183,e1184,e1185,e1186,e1187,e1188,e1189]),(149,scalS (sizeV 40)),(173,scalS (size16V 40)),(58,outS faultSp),(182,outS isSp)]) 2000 14 e1190.1.1 e1190.1.2=some e1190.2:=by kernel_rfl
end Go.Proofs.YtjilhkjgejnmpaaGreatDoor
