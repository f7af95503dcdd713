import Derived.Test.YtjilhkjgejnmpaaGreatDoorIDb
set_option linter.all false
noncomputable section
/- Runs. -/
namespace Go.Proofs.YtjilhkjgejnmpaaGreatDoor
open Go.J
theorem r25:runP (envL Tryz.prog pol [(106,peekS [e1,e2,e3,e4,e5,e6]),(149,scalS (sizeV 40)),(173,scalS (size16V 40)),(58,outS faultSp),(182,outS isSp)]) 2000 44 e25.1.1 e25.1.2=some e25.2:=by kernel_rfl
theorem r27:runP (envL Tryz.prog pol [(106,peekS [e1,e2,e3,e4,e5,e6]),(149,scalS (sizeV 40)),(173,scalS (size16V 40)),(58,outS faultSp),(182,outS isSp)]) 2000 44 e27.1.1 e27.1.2=some e27.2:=by kernel_rfl
theorem r60:runP (envL Tryz.prog pol [(106,peekS [e1,e2,e5,e6,e35,e36,e37]),(149,scalS (sizeV 40)),(173,scalS (size16V 40)),(58,outS faultSp),(182,outS isSp)]) 2000 44 e60.1.1 e60.1.2=some e60.2:=by kernel_rfl
theorem r62:runP (envL Tryz.prog pol [(106,peekS [e1,e2,e5,e6,e35,e36,e37]),(149,scalS (sizeV 40)),(173,scalS (size16V 40)),(58,outS faultSp),(182,outS isSp)]) 2000 44 e62.1.1 e62.1.2=some e62.2:=by kernel_rfl
theorem r298:runP (envL Tryz.prog pol [(149,scalS (sizeV 40)),(173,scalS (size16V 40)),(58,outS faultSp),(182,outS isSp)]) 2000 150 e298.1.1 e298.1.2=some e298.2:=by kernel_rfl
theorem r299:runP (envL Tryz.prog pol [(149,scalS (sizeV 40)),(173,scalS (size16V 40)),(58,outS faultSp),(182,outS isSp)]) 2000 150 e299.1.1 e299.1.2=some e299.2:=by kernel_rfl
theorem r300:runP (envL Tryz.prog pol [(149,scalS (sizeV 40)),(173,scalS (size16V 40)),(58,outS faultSp),(182,outS isSp)]) 2000 150 e300.1.1 e300.1.2=some e300.2:=by kernel_rfl
theorem r579:runP (envL Tryz.prog pol [(149,scalS (sizeV 40)),(173,scalS (size16V 40)),(58,outS faultSp),(182,outS isSp)]) 2000 153 e579.1.1 e579.1.2=some e579.2:=by kernel_rfl
theorem r976:runP (envL Tryz.prog pol [(149,scalS (sizeV 40)),(173,scalS (size16V 40)),(58,outS faultSp),(182,outS isSp)]) 2000 91 e976.1.1 e976.1.2=some e976.2:=by kernel_rfl
theorem r977:runP (envL Tryz.prog pol [(149,scalS (sizeV 40)),(173,scalS (size16V 40)),(58,outS faultSp),(182,outS isSp)]) 2000 91 e977.1.1 e977.1.2=some e977.2:=by kernel_rfl
theorem r984:runP (envL Tryz.prog pol [(149,scalS (sizeV 40)),(173,scalS (size16V 40)),(58,outS faultSp),(182,outS isSp)]) 2000 90 e984.1.1 e984.1.2=some e984.2:=by kernel_rfl
theorem r990:runP (envL Tryz.prog pol [(149,scalS (sizeV 40)),(173,scalS (size16V 40)),(58,outS faultSp),(182,outS isSp)]) 2000 169 e990.1.1 e990.1.2=some e990.2:=by kernel_rfl
theorem r994:runP (envL Tryz.prog pol [(149,scalS (sizeV 40)),(173,scalS (size16V 40)),(58,outS faultSp),(182,outS isSp)]) 2000 90 e994.1.1 e994.1.2=some e994.2:=by kernel_rfl
theorem r995:runP (envL Tryz.prog pol [(149,scalS (sizeV 40)),(173,scalS (size16V 40)),(58,outS faultSp),(182,outS isSp)]) 2000 90 e995.1.1 e995.1.2=some e995.2:=by kernel_rfl
theorem r997:runP (envL Tryz.prog pol [(149,scalS (sizeV 40)),(173,scalS (size16V 40)),(58,outS faultSp),(182,outS isSp)]) 2000 90 e997.1.1 e997.1.2=some e997.2:=by kernel_rfl
theorem r1003:runP (envL Tryz.prog pol [(169,peekS [e1002]),(149,scalS (sizeV 40)),(173,scalS (size16V 40)),(58,outS faultSp),(182,outS isSp)]) 2000 171 e1003.1.1 e1003.1.2=some e1003.2:=by kernel_rfl
theorem r1004:runP (envL Tryz.prog pol [(149,scalS (sizeV 40)),(173,scalS (size16V 40)),(58,outS faultSp),(182,outS isSp)]) 2000 271 e1004.1.1 e1004.1.2=some e1004.2:=by kernel_rfl
theorem r1050:runP (envL Tryz.prog pol [(149,scalS (sizeV 40)),(173,scalS (size16V 40)),(58,outS faultSp),(182,outS isSp)]) 2000 91 e1050.1.1 e1050.1.2=some e1050.2:=by kernel_rfl
theorem r1051:runP (envL Tryz.prog pol [(149,scalS (sizeV 40)),(173,scalS (size16V 40)),(58,outS faultSp),(182,outS isSp)]) 2000 91 e1051.1.1 e1051.1.2=some e1051.2:=by kernel_rfl
theorem r1065:runP (envL Tryz.prog pol [(149,scalS (sizeV 40)),(173,scalS (size16V 40)),(58,outS faultSp),(182,outS isSp)]) 2000 91 e1065.1.1 e1065.1.2=some e1065.2:=by kernel_rfl
theorem r1066:runP (envL Tryz.prog pol [(149,scalS (sizeV 40)),(173,scalS (size16V 40)),(58,outS faultSp),(182,outS isSp)]) 2000 91 e1066.1.1 e1066.1.2=some e1066.2:=by kernel_rfl
theorem r1084:runP (envL Tryz.prog pol [(149,scalS (sizeV 40)),(173,scalS (size16V 40)),(58,outS faultSp),(182,outS isSp)]) 2000 91 e1084.1.1 e1084.1.2=some e1084.2:=by kernel_rfl
theorem r1085:runP (envL Tryz.prog pol [(149,scalS (sizeV 40)),(173,scalS (size16V 40)),(58,outS faultSp),(182,outS isSp)]) 2000 91 e1085.1.1 e1085.1.2=some e1085.2:=by kernel_rfl
theorem r1107:runP (envL Tryz.prog pol [(149,scalS (sizeV 40)),(173,scalS (size16V 40)),(58,outS faultSp),(182,outS isSp)]) 2000 91 e1107.1.1 e1107.1.2=some e1107.2:=by kernel_rfl
theorem r1108:runP (envL Tryz.prog pol [(149,scalS (sizeV 40)),(173,scalS (size16V 40)),(58,outS faultSp),(182,outS isSp)]) 2000 91 e1108.1.1 e1108.1.2=some e1108.2:=by kernel_rfl
theorem r1132:runP (envL Tryz.prog pol [(149,scalS (sizeV 40)),(173,scalS (size16V 40)),(58,outS faultSp),(182,outS isSp)]) 2000 91 e1132.1.1 e1132.1.2=some e1132.2:=by kernel_rfl
theorem r1133:runP (envL Tryz.prog pol [(149,scalS (sizeV 40)),(173,scalS (size16V 40)),(58,outS faultSp),(182,outS isSp)]) 2000 91 e1133.1.1 e1133.1.2=some e1133.2:=by kernel_rfl
theorem r1157:runP (envL Tryz.prog pol [(149,scalS (sizeV 40)),(173,scalS (size16V 40)),(58,outS faultSp),(182,outS isSp)]) 2000 91 e1157.1.1 e1157.1.2=some e1157.2:=by kernel_rfl
theorem r1158:runP (envL Tryz.prog pol [(149,scalS (sizeV 40)),(173,scalS (size16V 40)),(58,outS faultSp),(182,outS isSp)]) 2000 91 e1158.1.1 e1158.1.2=some e1158.2:=by kernel_rfl
theorem r1182:runP (envL Tryz.prog pol [(149,scalS (sizeV 40)),(173,scalS (size16V 40)),(58,outS faultSp),(182,outS isSp)]) 2000 91 e1182.1.1 e1182.1.2=some e1182.2:=by kernel_rfl
theorem r1183:runP (envL Tryz.prog pol [(149,scalS (sizeV 40)),(173,scalS (size16V 40)),(58,outS faultSp),(182,outS isSp)]) 2000 91 e1183.1.1 e1183.1.2=some e1183.2:=by kernel_rfl
theorem r1207:runP (envL Tryz.prog pol [(149,scalS (sizeV 40)),(173,scalS (size16V 40)),(58,outS faultSp),(182,outS isSp)]) 2000 91 e1207.1.1 e1207.1.2=some e1207.2:=by kernel_rfl
theorem r1208:runP (envL Tryz.prog pol [(149,scalS (sizeV 40)),(173,scalS (size16V 40)),(58,outS faultSp),(182,outS isSp)]) 2000 91 e1208.1.1 e1208.1.2=some e1208.2:=by kernel_rfl
theorem r1232:runP (envL Tryz.prog pol [(149,scalS (sizeV 40)),(173,scalS (size16V 40)),(58,outS faultSp),(182,outS isSp)]) 2000 91 e1232.1.1 e1232.1.2=some e1232.2:=by kernel_rfl
theorem r1233:runP (envL Tryz.prog pol [(149,scalS (sizeV 40)),(173,scalS (size16V 40)),(58,outS faultSp),(182,outS isSp)]) 2000 91 e1233.1.1 e1233.1.2=some e1233.2:=by kernel_rfl
theorem r1257:runP (envL Tryz.prog pol [(149,scalS (sizeV 40)),(173,scalS (size16V 40)),(58,outS faultSp),(182,outS isSp)]) 2000 91 e1257.1.1 e1257.1.2=some e1257.2:=by kernel_rfl
theorem r1258:runP (envL Tryz.prog pol [(149,scalS (sizeV 40)),(173,scalS (size16V 40)),(58,outS faultSp),(182,outS isSp)]) 2000 91 e1258.1.1 e1258.1.2=some e1258.2:=by kernel_rfl
theorem r1282:runP (envL Tryz.prog pol [(149,scalS (sizeV 40)),(173,scalS (size16V 40)),(58,outS faultSp),(182,outS isSp)]) 2000 91 e1282.1.1 e1282.1.2=some e1282.2:=by kernel_rfl
theorem r1283:runP (envL Tryz.prog pol [(149,scalS (sizeV 40)),(173,scalS (size16V 40)),(58,outS faultSp),(182,outS isSp)]) 2000 91 e1283.1.1 e1283.1.2=some e1283.2:=by kernel_rfl
end Go.Proofs.YtjilhkjgejnmpaaGreatDoor
