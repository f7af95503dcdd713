import Derived.Test.YtjilhkjgejnmpaaGreatDoorIDb
set_option linter.all false
noncomputable section
/- Runs. -/
namespace Go.Proofs.YtjilhkjgejnmpaaGreatDoor
open Go.J
theorem r0:runP (envL Tryz.prog pol [(149,scalS (sizeV 40)),(173,scalS (size16V 40)),(58,outS faultSp),(182,outS isSp)]) 2000 11 e0.1.1 e0.1.2=some e0.2:=by kernel_rfl
theorem r17:runP (envL Tryz.prog pol [(106,peekS [e1,e2,e3,e4,e5,e6]),(149,scalS (sizeV 40)),(173,scalS (size16V 40)),(58,outS faultSp),(182,outS isSp)]) 2000 44 e17.1.1 e17.1.2=some e17.2:=by kernel_rfl
theorem r19:runP (envL Tryz.prog pol [(106,peekS [e1,e2,e3,e4,e5,e6]),(149,scalS (sizeV 40)),(173,scalS (size16V 40)),(58,outS faultSp),(182,outS isSp)]) 2000 44 e19.1.1 e19.1.2=some e19.2:=by kernel_rfl
theorem r21:runP (envL Tryz.prog pol [(106,peekS [e1,e2,e3,e4,e5,e6]),(149,scalS (sizeV 40)),(173,scalS (size16V 40)),(58,outS faultSp),(182,outS isSp)]) 2000 44 e21.1.1 e21.1.2=some e21.2:=by kernel_rfl
theorem r23:runP (envL Tryz.prog pol [(106,peekS [e1,e2,e3,e4,e5,e6]),(149,scalS (sizeV 40)),(173,scalS (size16V 40)),(58,outS faultSp),(182,outS isSp)]) 2000 44 e23.1.1 e23.1.2=some e23.2:=by kernel_rfl
theorem r30:runP (envL Tryz.prog pol [(44,peekS [e29]),(149,scalS (sizeV 40)),(173,scalS (size16V 40)),(58,outS faultSp),(182,outS isSp)]) 2000 11 e30.1.1 e30.1.2=some e30.2:=by kernel_rfl
theorem r32:runP (envL Tryz.prog pol [(44,peekS [e31]),(149,scalS (sizeV 40)),(173,scalS (size16V 40)),(58,outS faultSp),(182,outS isSp)]) 2000 11 e32.1.1 e32.1.2=some e32.2:=by kernel_rfl
theorem r58:runP (envL Tryz.prog pol [(106,peekS [e1,e2,e5,e6,e35,e36,e37]),(149,scalS (sizeV 40)),(173,scalS (size16V 40)),(58,outS faultSp),(182,outS isSp)]) 2000 44 e58.1.1 e58.1.2=some e58.2:=by kernel_rfl
theorem r63:runP (envL Tryz.prog pol [(44,peekS [e62]),(149,scalS (sizeV 40)),(173,scalS (size16V 40)),(58,outS faultSp),(182,outS isSp)]) 2000 11 e63.1.1 e63.1.2=some e63.2:=by kernel_rfl
theorem r134:runP (envL Tryz.prog pol [(57,peekS [e94,e116]),(64,peekS [e95,e117]),(134,peekS [e97,e118,e119]),(212,peekS [e100,e130,e131]),(213,peekS [e101,e132,e133]),(50,peekS [e108]),(52,peekS [e115]),(150,peekS [e120,e121,e122,e123]),(153,peekS [e124,e125]),(181,peekS [e127]),(149,scalS (sizeV 40)),(173,scalS (size16V 40)),(58,outS faultSp),(182,outS isSp)]) 2000 13 e134.1.1 e134.1.2=some e134.2:=by kernel_rfl
theorem r226:runP (envL Tryz.prog pol [(149,scalS (sizeV 40)),(173,scalS (size16V 40)),(58,outS faultSp),(182,outS isSp)]) 2000 153 e226.1.1 e226.1.2=some e226.2:=by kernel_rfl
theorem r227:runP (envL Tryz.prog pol [(149,scalS (sizeV 40)),(173,scalS (size16V 40)),(58,outS faultSp),(182,outS isSp)]) 2000 153 e227.1.1 e227.1.2=some e227.2:=by kernel_rfl
theorem r255:runP (envL Tryz.prog pol [(149,scalS (sizeV 40)),(173,scalS (size16V 40)),(58,outS faultSp),(182,outS isSp)]) 2000 64 e255.1.1 e255.1.2=some e255.2:=by kernel_rfl
theorem r265:runP (envL Tryz.prog pol [(149,scalS (sizeV 40)),(173,scalS (size16V 40)),(58,outS faultSp),(182,outS isSp)]) 2000 64 e265.1.1 e265.1.2=some e265.2:=by kernel_rfl
theorem r266:runP (envL Tryz.prog pol [(64,peekS [e265]),(149,scalS (sizeV 40)),(173,scalS (size16V 40)),(58,outS faultSp),(182,outS isSp)]) 2000 181 e266.1.1 e266.1.2=some e266.2:=by kernel_rfl
theorem r268:runP (envL Tryz.prog pol [(149,scalS (sizeV 40)),(173,scalS (size16V 40)),(58,outS faultSp),(182,outS isSp)]) 2000 213 e268.1.1 e268.1.2=some e268.2:=by kernel_rfl
theorem r301:runP (envL Tryz.prog pol [(149,scalS (sizeV 40)),(173,scalS (size16V 40)),(58,outS faultSp),(182,outS isSp)]) 2000 150 e301.1.1 e301.1.2=some e301.2:=by kernel_rfl
theorem r335:runP (envL Tryz.prog pol [(149,scalS (sizeV 40)),(173,scalS (size16V 40)),(58,outS faultSp),(182,outS isSp)]) 2000 150 e335.1.1 e335.1.2=some e335.2:=by kernel_rfl
theorem r545:runP (envL Tryz.prog pol [(57,peekS [e94]),(64,peekS [e95,e117]),(134,peekS [e97,e119]),(212,peekS [e100,e130]),(213,peekS [e101,e133]),(150,peekS [e120,e543]),(50,peekS [e538]),(52,peekS [e542]),(153,peekS [e544]),(149,scalS (sizeV 40)),(173,scalS (size16V 40)),(58,outS faultSp),(182,outS isSp)]) 2000 13 e545.1.1 e545.1.2=some e545.2:=by kernel_rfl
theorem r957:runP (envL Tryz.prog pol [(169,peekS [e946,e954]),(90,peekS [e948,e949,e950]),(91,peekS [e951,e952,e953]),(171,peekS [e955]),(271,peekS [e956]),(149,scalS (sizeV 40)),(173,scalS (size16V 40)),(58,outS faultSp),(182,outS isSp)]) 2000 14 e957.1.1 e957.1.2=some e957.2:=by kernel_rfl
theorem r987:runP (envL Tryz.prog pol [(149,scalS (sizeV 40)),(173,scalS (size16V 40)),(58,outS faultSp),(182,outS isSp)]) 2000 91 e987.1.1 e987.1.2=some e987.2:=by kernel_rfl
theorem r988:runP (envL Tryz.prog pol [(149,scalS (sizeV 40)),(173,scalS (size16V 40)),(58,outS faultSp),(182,outS isSp)]) 2000 91 e988.1.1 e988.1.2=some e988.2:=by kernel_rfl
theorem r996:runP (envL Tryz.prog pol [(149,scalS (sizeV 40)),(173,scalS (size16V 40)),(58,outS faultSp),(182,outS isSp)]) 2000 90 e996.1.1 e996.1.2=some e996.2:=by kernel_rfl
theorem r998:runP (envL Tryz.prog pol [(149,scalS (sizeV 40)),(173,scalS (size16V 40)),(58,outS faultSp),(182,outS isSp)]) 2000 91 e998.1.1 e998.1.2=some e998.2:=by kernel_rfl
theorem r1007:runP (envL Tryz.prog pol [(149,scalS (sizeV 40)),(173,scalS (size16V 40)),(58,outS faultSp),(182,outS isSp)]) 2000 90 e1007.1.1 e1007.1.2=some e1007.2:=by kernel_rfl
theorem r1009:runP (envL Tryz.prog pol [(149,scalS (sizeV 40)),(173,scalS (size16V 40)),(58,outS faultSp),(182,outS isSp)]) 2000 90 e1009.1.1 e1009.1.2=some e1009.2:=by kernel_rfl
theorem r1030:runP (envL Tryz.prog pol [(169,peekS [e946]),(90,peekS [e948,e1028]),(91,peekS [e951,e1029]),(271,peekS [e956]),(149,scalS (sizeV 40)),(173,scalS (size16V 40)),(58,outS faultSp),(182,outS isSp)]) 2000 14 e1030.1.1 e1030.1.2=some e1030.2:=by kernel_rfl
end Go.Proofs.YtjilhkjgejnmpaaGreatDoor
