import Derived.Test.YtjilhkjgejnmpaaGreatDoorIDb
set_option linter.all false
noncomputable section
/- Runs. -/
namespace Go.Proofs.YtjilhkjgejnmpaaGreatDoor
open Go.J
theorem r116:runP (envL Tryz.prog pol [(149,scalS (sizeV 40)),(173,scalS (size16V 40)),(58,outS faultSp),(182,outS isSp)]) 2000 57 e116.1.1 e116.1.2=some e116.2:=by kernel_rfl
theorem r165:runP (envL Tryz.prog pol [(57,peekS [e94,e116,e149]),(64,peekS [e95,e150]),(134,peekS [e97,e118,e119,e151,e152]),(212,peekS [e100,e130,e131,e162]),(213,peekS [e101,e132,e133,e163,e164]),(150,peekS [e120,e121,e122,e153,e154,e155,e156,e157]),(153,peekS [e124,e158,e159]),(181,peekS [e127,e161]),(50,peekS [e141]),(52,peekS [e148]),(149,scalS (sizeV 40)),(173,scalS (size16V 40)),(58,outS faultSp),(182,outS isSp)]) 2000 13 e165.1.1 e165.1.2=some e165.2:=by kernel_rfl
theorem r633:runP (envL Tryz.prog pol [(57,peekS [e94]),(64,peekS [e95,e255]),(134,peekS [e97,e119]),(212,peekS [e100,e130]),(213,peekS [e101,e133,e164,e197,e559,e604]),(50,peekS [e613]),(52,peekS [e621]),(150,peekS [e622,e623,e624,e625,e626,e627,e628,e629,e630,e631]),(153,peekS [e632]),(149,scalS (sizeV 40)),(173,scalS (size16V 40)),(58,outS faultSp),(182,outS isSp)]) 2000 13 e633.1.1 e633.1.2=some e633.2:=by kernel_rfl
theorem r1113:runP (envL Tryz.prog pol [(149,scalS (sizeV 40)),(173,scalS (size16V 40)),(58,outS faultSp),(182,outS isSp)]) 2000 91 e1113.1.1 e1113.1.2=some e1113.2:=by kernel_rfl
theorem r1138:runP (envL Tryz.prog pol [(149,scalS (sizeV 40)),(173,scalS (size16V 40)),(58,outS faultSp),(182,outS isSp)]) 2000 91 e1138.1.1 e1138.1.2=some e1138.2:=by kernel_rfl
theorem r1139:runP (envL Tryz.prog pol [(149,scalS (sizeV 40)),(173,scalS (size16V 40)),(58,outS faultSp),(182,outS isSp)]) 2000 91 e1139.1.1 e1139.1.2=some e1139.2:=by kernel_rfl
theorem r1163:runP (envL Tryz.prog pol [(149,scalS (sizeV 40)),(173,scalS (size16V 40)),(58,outS faultSp),(182,outS isSp)]) 2000 91 e1163.1.1 e1163.1.2=some e1163.2:=by kernel_rfl
end Go.Proofs.YtjilhkjgejnmpaaGreatDoor
