import Derived.Test.YtjilhkjgejnmpaaGreatDoorIDb
set_option linter.all false
noncomputable section
/- Runs. -/
namespace Go.Proofs.YtjilhkjgejnmpaaGreatDoor
open Go.J
theorem r26:runP (envL Tryz.prog pol [(44,peekS [e25]),(149,scalS (sizeV 40)),(173,scalS (size16V 40)),(58,outS faultSp),(182,outS isSp)]) 2000 11 e26.1.1 e26.1.2=some e26.2:=by kernel_rfl
theorem r1005:runP (envL Tryz.prog pol [(169,peekS [e946,e954,e966,e978,e990,e1002]),(90,peekS [e948,e950,e958,e959,e961,e970,e971,e973,e982,e983,e985,e994,e995,e996,e997]),(91,peekS [e951,e952,e962,e963,e964,e974,e975,e976,e986,e987,e988,e998,e999,e1000,e1001]),(171,peekS [e955,e967,e979,e991,e1003]),(271,peekS [e956,e968,e980,e992,e1004]),(149,scalS (sizeV 40)),(173,scalS (size16V 40)),(58,outS faultSp),(182,outS isSp)]) 2000 14 e1005.1.1 e1005.1.2=some e1005.2:=by kernel_rfl
theorem r1024:runP (envL Tryz.prog pol [(169,peekS [e946,e954,e966,e978,e990,e1002,e1014]),(90,peekS [e948,e950,e958,e959,e961,e970,e971,e973,e982,e983,e985,e994,e995,e997,e1006,e1007,e1009,e1018]),(91,peekS [e951,e952,e962,e963,e964,e974,e975,e976,e986,e987,e988,e998,e999,e1000,e1010,e1011,e1012,e1019]),(171,peekS [e955,e967,e979,e991,e1003,e1015]),(271,peekS [e956,e968,e980,e992,e1004,e1016]),(149,scalS (sizeV 40)),(173,scalS (size16V 40)),(58,outS faultSp),(182,outS isSp)]) 2000 14 e1024.1.1 e1024.1.2=some e1024.2:=by kernel_rfl
theorem r1025:runP (envL Tryz.prog pol [(169,peekS [e946,e954,e966,e978,e990,e1002,e1014]),(90,peekS [e948,e950,e958,e959,e961,e970,e971,e973,e982,e983,e985,e994,e995,e997,e1006,e1007,e1009,e1018]),(91,peekS [e951,e952,e962,e963,e964,e974,e975,e976,e986,e987,e988,e998,e999,e1000,e1010,e1011,e1012,e1019]),(171,peekS [e955,e967,e979,e991,e1003,e1015]),(271,peekS [e956,e968,e980,e992,e1004,e1016]),(149,scalS (sizeV 40)),(173,scalS (size16V 40)),(58,outS faultSp),(182,outS isSp)]) 2000 14 e1025.1.1 e1025.1.2=some e1025.2:=by kernel_rfl
end Go.Proofs.YtjilhkjgejnmpaaGreatDoor
