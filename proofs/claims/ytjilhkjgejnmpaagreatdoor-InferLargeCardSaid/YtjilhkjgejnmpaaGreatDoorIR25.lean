import Derived.Test.YtjilhkjgejnmpaaGreatDoorIDb
set_option linter.all false
noncomputable section
/- Runs. -/
namespace Go.Proofs.YtjilhkjgejnmpaaGreatDoor
open Go.J
theorem r31:runP (envL Tryz.prog pol [(106,peekS [e1,e2,e3,e4,e5,e6]),(149,scalS (sizeV 40)),(173,scalS (size16V 40)),(58,outS faultSp),(182,outS isSp)]) 2000 44 e31.1.1 e31.1.2=some e31.2:=by kernel_rfl
theorem r34:runP (envL Tryz.prog pol [(44,peekS [e33]),(149,scalS (sizeV 40)),(173,scalS (size16V 40)),(58,outS faultSp),(182,outS isSp)]) 2000 11 e34.1.1 e34.1.2=some e34.2:=by kernel_rfl
theorem r65:runP (envL Tryz.prog pol [(149,scalS (sizeV 40)),(173,scalS (size16V 40)),(58,outS faultSp),(182,outS isSp)]) 2000 11 e65.1.1 e65.1.2=some e65.2:=by kernel_rfl
theorem r102:runP (envL Tryz.prog pol [(50,peekS [e92]),(52,peekS [e93]),(57,peekS [e94]),(64,peekS [e95,e96]),(134,peekS [e97]),(150,peekS [e98]),(153,peekS [e99]),(212,peekS [e100]),(213,peekS [e101]),(149,scalS (sizeV 40)),(173,scalS (size16V 40)),(58,outS faultSp),(182,outS isSp)]) 2000 13 e102.1.1 e102.1.2=some e102.2:=by kernel_rfl
theorem r191:runP (envL Tryz.prog pol [(149,scalS (sizeV 40)),(173,scalS (size16V 40)),(58,outS faultSp),(182,outS isSp)]) 2000 153 e191.1.1 e191.1.2=some e191.2:=by kernel_rfl
theorem r192:runP (envL Tryz.prog pol [(149,scalS (sizeV 40)),(173,scalS (size16V 40)),(58,outS faultSp),(182,outS isSp)]) 2000 153 e192.1.1 e192.1.2=some e192.2:=by kernel_rfl
theorem r218:runP (envL Tryz.prog pol [(149,scalS (sizeV 40)),(173,scalS (size16V 40)),(58,outS faultSp),(182,outS isSp)]) 2000 64 e218.1.1 e218.1.2=some e218.2:=by kernel_rfl
theorem r225:runP (envL Tryz.prog pol [(149,scalS (sizeV 40)),(173,scalS (size16V 40)),(58,outS faultSp),(182,outS isSp)]) 2000 150 e225.1.1 e225.1.2=some e225.2:=by kernel_rfl
theorem r228:runP (envL Tryz.prog pol [(149,scalS (sizeV 40)),(173,scalS (size16V 40)),(58,outS faultSp),(182,outS isSp)]) 2000 64 e228.1.1 e228.1.2=some e228.2:=by kernel_rfl
theorem r229:runP (envL Tryz.prog pol [(64,peekS [e228]),(149,scalS (sizeV 40)),(173,scalS (size16V 40)),(58,outS faultSp),(182,outS isSp)]) 2000 181 e229.1.1 e229.1.2=some e229.2:=by kernel_rfl
theorem r231:runP (envL Tryz.prog pol [(149,scalS (sizeV 40)),(173,scalS (size16V 40)),(58,outS faultSp),(182,outS isSp)]) 2000 213 e231.1.1 e231.1.2=some e231.2:=by kernel_rfl
theorem r262:runP (envL Tryz.prog pol [(149,scalS (sizeV 40)),(173,scalS (size16V 40)),(58,outS faultSp),(182,outS isSp)]) 2000 150 e262.1.1 e262.1.2=some e262.2:=by kernel_rfl
theorem r297:runP (envL Tryz.prog pol [(149,scalS (sizeV 40)),(173,scalS (size16V 40)),(58,outS faultSp),(182,outS isSp)]) 2000 150 e297.1.1 e297.1.2=some e297.2:=by kernel_rfl
theorem r534:runP (envL Tryz.prog pol [(57,peekS [e94]),(64,peekS [e95,e96]),(134,peekS [e97]),(150,peekS [e98]),(153,peekS [e99]),(212,peekS [e100]),(213,peekS [e101]),(50,peekS [e531]),(52,peekS [e533]),(149,scalS (sizeV 40)),(173,scalS (size16V 40)),(58,outS faultSp),(182,outS isSp)]) 2000 13 e534.1.1 e534.1.2=some e534.2:=by kernel_rfl
theorem r558:runP (envL Tryz.prog pol [(149,scalS (sizeV 40)),(173,scalS (size16V 40)),(58,outS faultSp),(182,outS isSp)]) 2000 153 e558.1.1 e558.1.2=some e558.2:=by kernel_rfl
theorem r947:runP (envL Tryz.prog pol [(90,peekS [e944]),(91,peekS [e945]),(169,peekS [e946]),(149,scalS (sizeV 40)),(173,scalS (size16V 40)),(58,outS faultSp),(182,outS isSp)]) 2000 14 e947.1.1 e947.1.2=some e947.2:=by kernel_rfl
theorem r972:runP (envL Tryz.prog pol [(149,scalS (sizeV 40)),(173,scalS (size16V 40)),(58,outS faultSp),(182,outS isSp)]) 2000 90 e972.1.1 e972.1.2=some e972.2:=by kernel_rfl
theorem r975:runP (envL Tryz.prog pol [(149,scalS (sizeV 40)),(173,scalS (size16V 40)),(58,outS faultSp),(182,outS isSp)]) 2000 91 e975.1.1 e975.1.2=some e975.2:=by kernel_rfl
theorem r978:runP (envL Tryz.prog pol [(149,scalS (sizeV 40)),(173,scalS (size16V 40)),(58,outS faultSp),(182,outS isSp)]) 2000 169 e978.1.1 e978.1.2=some e978.2:=by kernel_rfl
theorem r983:runP (envL Tryz.prog pol [(149,scalS (sizeV 40)),(173,scalS (size16V 40)),(58,outS faultSp),(182,outS isSp)]) 2000 90 e983.1.1 e983.1.2=some e983.2:=by kernel_rfl
theorem r985:runP (envL Tryz.prog pol [(149,scalS (sizeV 40)),(173,scalS (size16V 40)),(58,outS faultSp),(182,outS isSp)]) 2000 90 e985.1.1 e985.1.2=some e985.2:=by kernel_rfl
theorem r986:runP (envL Tryz.prog pol [(149,scalS (sizeV 40)),(173,scalS (size16V 40)),(58,outS faultSp),(182,outS isSp)]) 2000 91 e986.1.1 e986.1.2=some e986.2:=by kernel_rfl
theorem r991:runP (envL Tryz.prog pol [(169,peekS [e990]),(149,scalS (sizeV 40)),(173,scalS (size16V 40)),(58,outS faultSp),(182,outS isSp)]) 2000 171 e991.1.1 e991.1.2=some e991.2:=by kernel_rfl
theorem r992:runP (envL Tryz.prog pol [(149,scalS (sizeV 40)),(173,scalS (size16V 40)),(58,outS faultSp),(182,outS isSp)]) 2000 271 e992.1.1 e992.1.2=some e992.2:=by kernel_rfl
theorem r1027:runP (envL Tryz.prog pol [(90,peekS [e944]),(91,peekS [e945]),(169,peekS [e946]),(149,scalS (sizeV 40)),(173,scalS (size16V 40)),(58,outS faultSp),(182,outS isSp)]) 2000 14 e1027.1.1 e1027.1.2=some e1027.2:=by kernel_rfl
theorem r1037:runP (envL Tryz.prog pol [(149,scalS (sizeV 40)),(173,scalS (size16V 40)),(58,outS faultSp),(182,outS isSp)]) 2000 91 e1037.1.1 e1037.1.2=some e1037.2:=by kernel_rfl
theorem r1038:runP (envL Tryz.prog pol [(149,scalS (sizeV 40)),(173,scalS (size16V 40)),(58,outS faultSp),(182,outS isSp)]) 2000 91 e1038.1.1 e1038.1.2=some e1038.2:=by kernel_rfl
theorem r1060:runP (envL Tryz.prog pol [(149,scalS (sizeV 40)),(173,scalS (size16V 40)),(58,outS faultSp),(182,outS isSp)]) 2000 90 e1060.1.1 e1060.1.2=some e1060.2:=by kernel_rfl
theorem r1078:runP (envL Tryz.prog pol [(149,scalS (sizeV 40)),(173,scalS (size16V 40)),(58,outS faultSp),(182,outS isSp)]) 2000 90 e1078.1.1 e1078.1.2=some e1078.2:=by kernel_rfl
theorem r1079:runP (envL Tryz.prog pol [(149,scalS (sizeV 40)),(173,scalS (size16V 40)),(58,outS faultSp),(182,outS isSp)]) 2000 90 e1079.1.1 e1079.1.2=some e1079.2:=by kernel_rfl
theorem r1099:runP (envL Tryz.prog pol [(149,scalS (sizeV 40)),(173,scalS (size16V 40)),(58,outS faultSp),(182,outS isSp)]) 2000 90 e1099.1.1 e1099.1.2=some e1099.2:=by kernel_rfl
theorem r1100:runP (envL Tryz.prog pol [(149,scalS (sizeV 40)),(173,scalS (size16V 40)),(58,outS faultSp),(182,outS isSp)]) 2000 90 e1100.1.1 e1100.1.2=some e1100.2:=by kernel_rfl
theorem r1101:runP (envL Tryz.prog pol [(149,scalS (sizeV 40)),(173,scalS (size16V 40)),(58,outS faultSp),(182,outS isSp)]) 2000 90 e1101.1.1 e1101.1.2=some e1101.2:=by kernel_rfl
theorem r1102:runP (envL Tryz.prog pol [(149,scalS (sizeV 40)),(173,scalS (size16V 40)),(58,outS faultSp),(182,outS isSp)]) 2000 90 e1102.1.1 e1102.1.2=some e1102.2:=by kernel_rfl
theorem r1124:runP (envL Tryz.prog pol [(149,scalS (sizeV 40)),(173,scalS (size16V 40)),(58,outS faultSp),(182,outS isSp)]) 2000 90 e1124.1.1 e1124.1.2=some e1124.2:=by kernel_rfl
theorem r1125:runP (envL Tryz.prog pol [(149,scalS (sizeV 40)),(173,scalS (size16V 40)),(58,outS faultSp),(182,outS isSp)]) 2000 90 e1125.1.1 e1125.1.2=some e1125.2:=by kernel_rfl
theorem r1126:runP (envL Tryz.prog pol [(149,scalS (sizeV 40)),(173,scalS (size16V 40)),(58,outS faultSp),(182,outS isSp)]) 2000 90 e1126.1.1 e1126.1.2=some e1126.2:=by kernel_rfl
theorem r1127:runP (envL Tryz.prog pol [(149,scalS (sizeV 40)),(173,scalS (size16V 40)),(58,outS faultSp),(182,outS isSp)]) 2000 90 e1127.1.1 e1127.1.2=some e1127.2:=by kernel_rfl
theorem r1149:runP (envL Tryz.prog pol [(149,scalS (sizeV 40)),(173,scalS (size16V 40)),(58,outS faultSp),(182,outS isSp)]) 2000 90 e1149.1.1 e1149.1.2=some e1149.2:=by kernel_rfl
theorem r1150:runP (envL Tryz.prog pol [(149,scalS (sizeV 40)),(173,scalS (size16V 40)),(58,outS faultSp),(182,outS isSp)]) 2000 90 e1150.1.1 e1150.1.2=some e1150.2:=by kernel_rfl
theorem r1151:runP (envL Tryz.prog pol [(149,scalS (sizeV 40)),(173,scalS (size16V 40)),(58,outS faultSp),(182,outS isSp)]) 2000 90 e1151.1.1 e1151.1.2=some e1151.2:=by kernel_rfl
theorem r1152:runP (envL Tryz.prog pol [(149,scalS (sizeV 40)),(173,scalS (size16V 40)),(58,outS faultSp),(182,outS isSp)]) 2000 90 e1152.1.1 e1152.1.2=some e1152.2:=by kernel_rfl
theorem r1174:runP (envL Tryz.prog pol [(149,scalS (sizeV 40)),(173,scalS (size16V 40)),(58,outS faultSp),(182,outS isSp)]) 2000 90 e1174.1.1 e1174.1.2=some e1174.2:=by kernel_rfl
theorem r1175:runP (envL Tryz.prog pol [(149,scalS (sizeV 40)),(173,scalS (size16V 40)),(58,outS faultSp),(182,outS isSp)]) 2000 90 e1175.1.1 e1175.1.2=some e1175.2:=by kernel_rfl
theorem r1176:runP (envL Tryz.prog pol [(149,scalS (sizeV 40)),(173,scalS (size16V 40)),(58,outS faultSp),(182,outS isSp)]) 2000 90 e1176.1.1 e1176.1.2=some e1176.2:=by kernel_rfl
theorem r1177:runP (envL Tryz.prog pol [(149,scalS (sizeV 40)),(173,scalS (size16V 40)),(58,outS faultSp),(182,outS isSp)]) 2000 90 e1177.1.1 e1177.1.2=some e1177.2:=by kernel_rfl
theorem r1199:runP (envL Tryz.prog pol [(149,scalS (sizeV 40)),(173,scalS (size16V 40)),(58,outS faultSp),(182,outS isSp)]) 2000 90 e1199.1.1 e1199.1.2=some e1199.2:=by kernel_rfl
theorem r1200:runP (envL Tryz.prog pol [(149,scalS (sizeV 40)),(173,scalS (size16V 40)),(58,outS faultSp),(182,outS isSp)]) 2000 90 e1200.1.1 e1200.1.2=some e1200.2:=by kernel_rfl
theorem r1201:runP (envL Tryz.prog pol [(149,scalS (sizeV 40)),(173,scalS (size16V 40)),(58,outS faultSp),(182,outS isSp)]) 2000 90 e1201.1.1 e1201.1.2=some e1201.2:=by kernel_rfl
theorem r1202:runP (envL Tryz.prog pol [(149,scalS (sizeV 40)),(173,scalS (size16V 40)),(58,outS faultSp),(182,outS isSp)]) 2000 90 e1202.1.1 e1202.1.2=some e1202.2:=by kernel_rfl
theorem r1224:runP (envL Tryz.prog pol [(149,scalS (sizeV 40)),(173,scalS (size16V 40)),(58,outS faultSp),(182,outS isSp)]) 2000 90 e1224.1.1 e1224.1.2=some e1224.2:=by kernel_rfl
theorem r1225:runP (envL Tryz.prog pol [(149,scalS (sizeV 40)),(173,scalS (size16V 40)),(58,outS faultSp),(182,outS isSp)]) 2000 90 e1225.1.1 e1225.1.2=some e1225.2:=by kernel_rfl
theorem r1226:runP (envL Tryz.prog pol [(149,scalS (sizeV 40)),(173,scalS (size16V 40)),(58,outS faultSp),(182,outS isSp)]) 2000 90 e1226.1.1 e1226.1.2=some e1226.2:=by kernel_rfl
theorem r1227:runP (envL Tryz.prog pol [(149,scalS (sizeV 40)),(173,scalS (size16V 40)),(58,outS faultSp),(182,outS isSp)]) 2000 90 e1227.1.1 e1227.1.2=some e1227.2:=by kernel_rfl
theorem r1249:runP (envL Tryz.prog pol [(149,scalS (sizeV 40)),(173,scalS (size16V 40)),(58,outS faultSp),(182,outS isSp)]) 2000 90 e1249.1.1 e1249.1.2=some e1249.2:=by kernel_rfl
theorem r1250:runP (envL Tryz.prog pol [(149,scalS (sizeV 40)),(173,scalS (size16V 40)),(58,outS faultSp),(182,outS isSp)]) 2000 90 e1250.1.1 e1250.1.2=some e1250.2:=by kernel_rfl
theorem r1251:runP (envL Tryz.prog pol [(149,scalS (sizeV 40)),(173,scalS (size16V 40)),(58,outS faultSp),(182,outS isSp)]) 2000 90 e1251.1.1 e1251.1.2=some e1251.2:=by kernel_rfl
theorem r1252:runP (envL Tryz.prog pol [(149,scalS (sizeV 40)),(173,scalS (size16V 40)),(58,outS faultSp),(182,outS isSp)]) 2000 90 e1252.1.1 e1252.1.2=some e1252.2:=by kernel_rfl
theorem r1274:runP (envL Tryz.prog pol [(149,scalS (sizeV 40)),(173,scalS (size16V 40)),(58,outS faultSp),(182,outS isSp)]) 2000 90 e1274.1.1 e1274.1.2=some e1274.2:=by kernel_rfl
theorem r1275:runP (envL Tryz.prog pol [(149,scalS (sizeV 40)),(173,scalS (size16V 40)),(58,outS faultSp),(182,outS isSp)]) 2000 90 e1275.1.1 e1275.1.2=some e1275.2:=by kernel_rfl
theorem r1276:runP (envL Tryz.prog pol [(149,scalS (sizeV 40)),(173,scalS (size16V 40)),(58,outS faultSp),(182,outS isSp)]) 2000 90 e1276.1.1 e1276.1.2=some e1276.2:=by kernel_rfl
theorem r1277:runP (envL Tryz.prog pol [(149,scalS (sizeV 40)),(173,scalS (size16V 40)),(58,outS faultSp),(182,outS isSp)]) 2000 90 e1277.1.1 e1277.1.2=some e1277.2:=by kernel_rfl
end Go.Proofs.YtjilhkjgejnmpaaGreatDoor
