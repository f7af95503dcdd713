import Derived.Test.YtjilhkjgejnmpaaGreatDoorIDb
set_option linter.all false
noncomputable section
/- Runs. -/
namespace Go.Proofs.YtjilhkjgejnmpaaGreatDoor
open Go.J
theorem r41:runP (envL Tryz.prog pol [(44,peekS [e40]),(149,scalS (sizeV 40)),(173,scalS (size16V 40)),(58,outS faultSp),(182,outS isSp)]) 2000 11 e41.1.1 e41.1.2=some e41.2:=by kernel_rfl
theorem r44:runP (envL Tryz.prog pol [(106,peekS [e1,e2,e5,e6,e35,e36,e37]),(149,scalS (sizeV 40)),(173,scalS (size16V 40)),(58,outS faultSp),(182,outS isSp)]) 2000 44 e44.1.1 e44.1.2=some e44.2:=by kernel_rfl
theorem r771:runP (envL Tryz.prog pol [(57,peekS [e94]),(64,peekS [e95]),(134,peekS [e97,e119]),(212,peekS [e100,e130]),(213,peekS [e101,e133,e164,e197,e232,e269,e559,e604,e665,e733]),(50,peekS [e746]),(52,peekS [e758]),(150,peekS [e759,e760,e761,e762,e763,e764,e765,e766,e767,e768,e769,e770]),(149,scalS (sizeV 40)),(173,scalS (size16V 40)),(58,outS faultSp),(182,outS isSp)]) 2000 13 e771.1.1 e771.1.2=some e771.2:=by kernel_rfl
theorem r811:runP (envL Tryz.prog pol [(57,peekS [e94]),(64,peekS [e95]),(134,peekS [e97,e119]),(212,peekS [e100,e130]),(213,peekS [e101,e133,e164,e197,e232,e269,e559,e604,e665,e733,e810]),(50,peekS [e784]),(52,peekS [e797]),(150,peekS [e798,e799,e800,e801,e802,e803,e804,e805,e806,e807,e808,e809]),(149,scalS (sizeV 40)),(173,scalS (size16V 40)),(58,outS faultSp),(182,outS isSp)]) 2000 13 e811.1.1 e811.1.2=some e811.2:=by kernel_rfl
theorem r852:runP (envL Tryz.prog pol [(57,peekS [e94]),(64,peekS [e95]),(134,peekS [e97,e119]),(212,peekS [e100,e130]),(213,peekS [e101,e133,e164,e197,e232,e269,e308,e559,e604,e665,e733,e810]),(50,peekS [e825]),(52,peekS [e839]),(150,peekS [e840,e841,e842,e843,e844,e845,e846,e847,e848,e849,e850,e851]),(149,scalS (sizeV 40)),(173,scalS (size16V 40)),(58,outS faultSp),(182,outS isSp)]) 2000 13 e852.1.1 e852.1.2=some e852.2:=by kernel_rfl
end Go.Proofs.YtjilhkjgejnmpaaGreatDoor
