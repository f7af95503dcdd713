import Derived.Test.YtjilhkjgejnmpaaGreatDoorIDb
set_option linter.all false
noncomputable section
/- Runs. -/
namespace Go.Proofs.YtjilhkjgejnmpaaGreatDoor
open Go.J
theorem r560:runP (envL Tryz.prog pol [(57,peekS [e94]),(64,peekS [e95,e150]),(134,peekS [e97,e119]),(212,peekS [e100,e130]),(213,peekS [e101,e133,e559]),(50,peekS [e549]),(52,peekS [e553]),(150,peekS [e554,e555,e556,e557]),(153,peekS [e558]),(149,scalS (sizeV 40)),(173,scalS (size16V 40)),(58,outS faultSp),(182,outS isSp)]) 2000 13 e560.1.1 e560.1.2=some e560.2:=by kernel_rfl
theorem r1186:runP (envL Tryz.prog pol [(149,scalS (sizeV 40)),(173,scalS (size16V 40)),(58,outS faultSp),(182,outS isSp)]) 2000 91 e1186.1.1 e1186.1.2=some e1186.2:=by kernel_rfl
theorem r1187:runP (envL Tryz.prog pol [(149,scalS (sizeV 40)),(173,scalS (size16V 40)),(58,outS faultSp),(182,outS isSp)]) 2000 91 e1187.1.1 e1187.1.2=some e1187.2:=by kernel_rfl
theorem r1211:runP (envL Tryz.prog pol [(149,scalS (sizeV 40)),(173,scalS (size16V 40)),(58,outS faultSp),(182,outS isSp)]) 2000 91 e1211.1.1 e1211.1.2=some e1211.2:=by kernel_rfl
theorem r1212:runP (envL Tryz.prog pol [(149,scalS (sizeV 40)),(173,scalS (size16V 40)),(58,outS faultSp),(182,outS isSp)]) 2000 91 e1212.1.1 e1212.1.2=some e1212.2:=by kernel_rfl
theorem r1236:runP (envL Tryz.prog pol [(149,scalS (sizeV 40)),(173,scalS (size16V 40)),(58,outS faultSp),(182,outS isSp)]) 2000 91 e1236.1.1 e1236.1.2=some e1236.2:=by kernel_rfl
theorem r1237:runP (envL Tryz.prog pol [(149,scalS (sizeV 40)),(173,scalS (size16V 40)),(58,outS faultSp),(182,outS isSp)]) 2000 91 e1237.1.1 e1237.1.2=some e1237.2:=by kernel_rfl
theorem r1261:runP (envL Tryz.prog pol [(149,scalS (sizeV 40)),(173,scalS (size16V 40)),(58,outS faultSp),(182,outS isSp)]) 2000 91 e1261.1.1 e1261.1.2=some e1261.2:=by kernel_rfl
theorem r1262:runP (envL Tryz.prog pol [(149,scalS (sizeV 40)),(173,scalS (size16V 40)),(58,outS faultSp),(182,outS isSp)]) 2000 91 e1262.1.1 e1262.1.2=some e1262.2:=by kernel_rfl
theorem r1286:runP (envL Tryz.prog pol [(149,scalS (sizeV 40)),(173,scalS (size16V 40)),(58,outS faultSp),(182,outS isSp)]) 2000 91 e1286.1.1 e1286.1.2=some e1286.2:=by kernel_rfl
theorem r1287:runP (envL Tryz.prog pol [(149,scalS (sizeV 40)),(173,scalS (size16V 40)),(58,outS faultSp),(182,outS isSp)]) 2000 91 e1287.1.1 e1287.1.2=some e1287.2:=by kernel_rfl
end Go.Proofs.YtjilhkjgejnmpaaGreatDoor
