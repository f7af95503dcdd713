import Derived.Test.YtjilhkjgejnmpaaGreatDoorIDb
set_option linter.all false
noncomputable section
/- Runs. -/
namespace Go.Proofs.YtjilhkjgejnmpaaGreatDoor
open Go.J
theorem r666:runP (envL Tryz.prog pol [(57,peekS [e94]),(64,peekS [e95,e294]),(134,peekS [e97,e119]),(212,peekS [e100,e130]),(213,peekS [e101,e133,e164,e197,e559,e604,e665]),(50,peekS [e642]),(52,peekS [e651]),(150,peekS [e652,e653,e654,e655,e656,e657,e658,e659,e660,e661,e662,e663]),(153,peekS [e664]),(149,scalS (sizeV 40)),(173,scalS (size16V 40)),(58,outS faultSp),(182,outS isSp)]) 2000 13 e666.1.1 e666.1.2=some e666.2:=by kernel_rfl
theorem r989:runP (envL Tryz.prog pol [(149,scalS (sizeV 40)),(173,scalS (size16V 40)),(58,outS faultSp),(182,outS isSp)]) 2000 91 e989.1.1 e989.1.2=some e989.2:=by kernel_rfl
end Go.Proofs.YtjilhkjgejnmpaaGreatDoor
