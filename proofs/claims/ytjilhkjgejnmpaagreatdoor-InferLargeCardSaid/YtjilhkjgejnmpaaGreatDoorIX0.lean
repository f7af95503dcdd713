import Derived.Test.YtjilhkjgejnmpaaGreatDoorIDb
set_option linter.all false
noncomputable section
/- Runs. -/
namespace Go.Proofs.YtjilhkjgejnmpaaGreatDoor
open Go.J
theorem r1343:runP (envL Tryz.prog pol [(149,scalS (sizeV 40)),(173,scalS (size16V 40)),(58,outS faultSp),(182,outS isSp)]) 2000 167 e1343.1.1 e1343.1.2=some e1343.2:=by kernel_rfl
theorem r1344:runP (envL Tryz.prog pol [(149,scalS (sizeV 40)),(173,scalS (size16V 40)),(58,outS faultSp),(182,outS isSp)]) 2000 167 e1344.1.1 e1344.1.2=some e1344.2:=by kernel_rfl
theorem r1345:runP (envL Tryz.prog pol [(149,scalS (sizeV 40)),(173,scalS (size16V 40)),(58,outS faultSp),(182,outS isSp)]) 2000 167 e1345.1.1 e1345.1.2=some e1345.2:=by kernel_rfl
theorem r1346:runP (envL Tryz.prog pol [(149,scalS (sizeV 40)),(173,scalS (size16V 40)),(58,outS faultSp),(182,outS isSp)]) 2000 167 e1346.1.1 e1346.1.2=some e1346.2:=by kernel_rfl
theorem r1347:runP (envL Tryz.prog pol [(149,scalS (sizeV 40)),(173,scalS (size16V 40)),(58,outS faultSp),(182,outS isSp)]) 2000 167 e1347.1.1 e1347.1.2=some e1347.2:=by kernel_rfl
theorem r1348:runP (envL Tryz.prog pol [(149,scalS (sizeV 40)),(173,scalS (size16V 40)),(58,outS faultSp),(182,outS isSp)]) 2000 167 e1348.1.1 e1348.1.2=some e1348.2:=by kernel_rfl
theorem r1349:runP (envL Tryz.prog pol [(149,scalS (sizeV 40)),(173,scalS (size16V 40)),(58,outS faultSp),(182,outS isSp)]) 2000 167 e1349.1.1 e1349.1.2=some e1349.2:=by kernel_rfl
theorem r1350:runP (envL Tryz.prog pol [(149,scalS (sizeV 40)),(173,scalS (size16V 40)),(58,outS faultSp),(182,outS isSp)]) 2000 167 e1350.1.1 e1350.1.2=some e1350.2:=by kernel_rfl
theorem r1351:runP (envL Tryz.prog pol [(149,scalS (sizeV 40)),(173,scalS (size16V 40)),(58,outS faultSp),(182,outS isSp)]) 2000 167 e1351.1.1 e1351.1.2=some e1351.2:=by kernel_rfl
theorem r1352:runP (envL Tryz.prog pol [(149,scalS (sizeV 40)),(173,scalS (size16V 40)),(58,outS faultSp),(182,outS isSp)]) 2000 167 e1352.1.1 e1352.1.2=some e1352.2:=by kernel_rfl
theorem r1353:runP (envL Tryz.prog pol [(149,scalS (sizeV 40)),(173,scalS (size16V 40)),(58,outS faultSp),(182,outS isSp)]) 2000 167 e1353.1.1 e1353.1.2=some e1353.2:=by kernel_rfl
theorem r1354:runP (envL Tryz.prog pol [(149,scalS (sizeV 40)),(173,scalS (size16V 40)),(58,outS faultSp),(182,outS isSp)]) 2000 167 e1354.1.1 e1354.1.2=some e1354.2:=by kernel_rfl
theorem r1355:runP (envL Tryz.prog pol [(149,scalS (sizeV 40)),(173,scalS (size16V 40)),(58,outS faultSp),(182,outS isSp)]) 2000 167 e1355.1.1 e1355.1.2=some e1355.2:=by kernel_rfl
theorem r1356:runP (envL Tryz.prog pol [(149,scalS (sizeV 40)),(173,scalS (size16V 40)),(58,outS faultSp),(182,outS isSp)]) 2000 167 e1356.1.1 e1356.1.2=some e1356.2:=by kernel_rfl
theorem r1017:runP (envL Tryz.prog pol [(169,peekS [e946,e954,e966,e978,e990,e1002,e1014]),(90,peekS [e948,e950,e958,e959,e961,e970,e971,e973,e982,e983,e985,e994,e995,e997,e1006,e1007,e1008,e1009]),(91,peekS [e951,e952,e962,e963,e964,e974,e975,e976,e986,e987,e988,e998,e999,e1000,e1010,e1011,e1012,e1013]),(171,peekS [e955,e967,e979,e991,e1003,e1015]),(271,peekS [e956,e968,e980,e992,e1004,e1016]),(167,peekS [e1343,e1344,e1345,e1346,e1347,e1348,e1349,e1350,e1351,e1352,e1353,e1354,e1355]),(149,scalS (sizeV 40)),(173,scalS (size16V 40)),(58,outS faultSp),(182,outS isSp)]) 2000 14 e1017.1.1 e1017.1.2=some e1017.2:=by kernel_rfl
theorem r1026:runP (envL Tryz.prog pol [(169,peekS [e946,e954,e966,e978,e990,e1002,e1014]),(90,peekS [e948,e950,e958,e959,e961,e970,e971,e973,e982,e983,e985,e994,e995,e997,e1006,e1007,e1009,e1018]),(91,peekS [e951,e952,e962,e963,e964,e974,e975,e976,e986,e987,e988,e998,e999,e1000,e1010,e1011,e1012,e1019]),(171,peekS [e955,e967,e979,e991,e1003,e1015]),(271,peekS [e956,e968,e980,e992,e1004,e1016]),(167,peekS [e1343,e1344,e1345,e1346,e1347,e1348,e1349,e1350,e1351,e1352,e1353,e1354,e1355,e1356]),(149,scalS (sizeV 40)),(173,scalS (size16V 40)),(58,outS faultSp),(182,outS isSp)]) 2000 14 e1026.1.1 e1026.1.2=some e1026.2:=by kernel_rfl
end Go.Proofs.YtjilhkjgejnmpaaGreatDoor
