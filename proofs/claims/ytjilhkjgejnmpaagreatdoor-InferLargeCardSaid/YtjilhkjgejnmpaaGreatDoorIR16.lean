import Derived.Test.YtjilhkjgejnmpaaGreatDoorIDb
set_option linter.all false
noncomputable section
/- Runs. -/
namespace Go.Proofs.YtjilhkjgejnmpaaGreatDoor
open Go.J
theorem r16:runP (envL Tryz.prog pol [(44,peekS [e15]),(149,scalS (sizeV 40)),(173,scalS (size16V 40)),(58,outS faultSp),(182,outS isSp)]) 2000 11 e16.1.1 e16.1.2=some e16.2:=by kernel_rfl
theorem r18:runP (envL Tryz.prog pol [(44,peekS [e17]),(149,scalS (sizeV 40)),(173,scalS (size16V 40)),(58,outS faultSp),(182,outS isSp)]) 2000 11 e18.1.1 e18.1.2=some e18.2:=by kernel_rfl
theorem r42:runP (envL Tryz.prog pol [(106,peekS [e1,e2,e5,e6,e35,e36,e37]),(149,scalS (sizeV 40)),(173,scalS (size16V 40)),(58,outS faultSp),(182,outS isSp)]) 2000 44 e42.1.1 e42.1.2=some e42.2:=by kernel_rfl
theorem r51:runP (envL Tryz.prog pol [(44,peekS [e50]),(149,scalS (sizeV 40)),(173,scalS (size16V 40)),(58,outS faultSp),(182,outS isSp)]) 2000 11 e51.1.1 e51.1.2=some e51.2:=by kernel_rfl
theorem r53:runP (envL Tryz.prog pol [(44,peekS [e52]),(149,scalS (sizeV 40)),(173,scalS (size16V 40)),(58,outS faultSp),(182,outS isSp)]) 2000 11 e53.1.1 e53.1.2=some e53.2:=by kernel_rfl
theorem r605:runP (envL Tryz.prog pol [(57,peekS [e94]),(64,peekS [e95,e218]),(134,peekS [e97,e119]),(212,peekS [e100,e130]),(213,peekS [e101,e133,e164,e559,e604]),(50,peekS [e587]),(52,peekS [e594]),(150,peekS [e595,e596,e597,e598,e599,e600,e601,e602]),(153,peekS [e603]),(149,scalS (sizeV 40)),(173,scalS (size16V 40)),(58,outS faultSp),(182,outS isSp)]) 2000 13 e605.1.1 e605.1.2=some e605.2:=by kernel_rfl
theorem r981:runP (envL Tryz.prog pol [(169,peekS [e946,e954,e966,e978]),(90,peekS [e948,e950,e958,e959,e961,e970,e971,e972,e973]),(91,peekS [e951,e952,e962,e963,e964,e974,e975,e976,e977]),(171,peekS [e955,e967,e979]),(271,peekS [e956,e968,e980]),(149,scalS (sizeV 40)),(173,scalS (size16V 40)),(58,outS faultSp),(182,outS isSp)]) 2000 14 e981.1.1 e981.1.2=some e981.2:=by kernel_rfl
theorem r1069:runP (envL Tryz.prog pol [(169,peekS [e946]),(271,peekS [e956,e968,e980,e992]),(90,peekS [e1053,e1054,e1055,e1056,e1057,e1058,e1059,e1060]),(91,peekS [e1061,e1062,e1063,e1064,e1065,e1066,e1067,e1068]),(149,scalS (sizeV 40)),(173,scalS (size16V 40)),(58,outS faultSp),(182,outS isSp)]) 2000 14 e1069.1.1 e1069.1.2=some e1069.2:=by kernel_rfl
end Go.Proofs.YtjilhkjgejnmpaaGreatDoor
