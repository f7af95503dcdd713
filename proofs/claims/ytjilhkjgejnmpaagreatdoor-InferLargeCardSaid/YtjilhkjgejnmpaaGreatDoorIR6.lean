import Derived.Test.YtjilhkjgejnmpaaGreatDoorIDb
set_option linter.all false
noncomputable section
/- Runs. -/
namespace Go.Proofs.YtjilhkjgejnmpaaGreatDoor
open Go.J
theorem r43:runP (envL Tryz.prog pol [(44,peekS [e42]),(149,scalS (sizeV 40)),(173,scalS (size16V 40)),(58,outS faultSp),(182,outS isSp)]) 2000 11 e43.1.1 e43.1.2=some e43.2:=by kernel_rfl
theorem r190:runP (envL Tryz.prog pol [(149,scalS (sizeV 40)),(173,scalS (size16V 40)),(58,outS faultSp),(182,outS isSp)]) 2000 150 e190.1.1 e190.1.2=some e190.2:=by kernel_rfl
theorem r895:runP (envL Tryz.prog pol [(57,peekS [e94]),(64,peekS [e95]),(134,peekS [e97,e119]),(212,peekS [e100,e130]),(213,peekS [e101,e133,e164,e197,e232,e269,e308,e559,e604,e665,e733,e810,e894]),(50,peekS [e867]),(52,peekS [e881]),(150,peekS [e882,e883,e884,e885,e886,e887,e888,e889,e890,e891,e892,e893]),(149,scalS (sizeV 40)),(173,scalS (size16V 40)),(58,outS faultSp),(182,outS isSp)]) 2000 13 e895.1.1 e895.1.2=some e895.2:=by kernel_rfl
theorem r940:runP (envL Tryz.prog pol [(57,peekS [e94]),(64,peekS [e95]),(134,peekS [e97,e119]),(212,peekS [e100,e130]),(213,peekS [e101,e133,e164,e197,e232,e269,e308,e336,e559,e604,e665,e733,e810,e894]),(50,peekS [e911]),(52,peekS [e927]),(150,peekS [e928,e929,e930,e931,e932,e933,e934,e935,e936,e937,e938,e939]),(149,scalS (sizeV 40)),(173,scalS (size16V 40)),(58,outS faultSp),(182,outS isSp)]) 2000 13 e940.1.1 e940.1.2=some e940.2:=by kernel_rfl
theorem r1022:runP (envL Tryz.prog pol [(169,peekS [e946,e954,e966,e978,e990,e1002,e1014]),(90,peekS [e948,e950,e958,e959,e961,e970,e971,e973,e982,e983,e985,e994,e995,e997,e1006,e1007,e1009,e1018]),(91,peekS [e951,e952,e962,e963,e964,e974,e975,e976,e986,e987,e988,e998,e999,e1000,e1010,e1011,e1012,e1019]),(171,peekS [e955,e967,e979,e991,e1003,e1015]),(271,peekS [e956,e968,e980,e992,e1004,e1016]),(149,scalS (sizeV 40)),(173,scalS (size16V 40)),(58,outS faultSp),(182,outS isSp)]) 2000 14 e1022.1.1 e1022.1.2=some e1022.2:=by kernel_rfl
end Go.Proofs.YtjilhkjgejnmpaaGreatDoor
