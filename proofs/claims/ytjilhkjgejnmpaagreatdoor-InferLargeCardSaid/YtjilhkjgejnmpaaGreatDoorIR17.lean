import Derived.Test.YtjilhkjgejnmpaaGreatDoorIDb
set_option linter.all false
noncomputable section
/- Runs. -/
namespace Go.Proofs.YtjilhkjgejnmpaaGreatDoor
open Go.J
theorem r20:runP (envL Tryz.prog pol [(44,peekS [e19]),(149,scalS (sizeV 40)),(173,scalS (size16V 40)),(58,outS faultSp),(182,outS isSp)]) 2000 11 e20.1.1 e20.1.2=some e20.2:=by kernel_rfl
theorem r46:runP (envL Tryz.prog pol [(106,peekS [e1,e2,e5,e6,e35,e36,e37]),(149,scalS (sizeV 40)),(173,scalS (size16V 40)),(58,outS faultSp),(182,outS isSp)]) 2000 44 e46.1.1 e46.1.2=some e46.2:=by kernel_rfl
theorem r55:runP (envL Tryz.prog pol [(44,peekS [e54]),(149,scalS (sizeV 40)),(173,scalS (size16V 40)),(58,outS faultSp),(182,outS isSp)]) 2000 11 e55.1.1 e55.1.2=some e55.2:=by kernel_rfl
theorem r80:runP (envL Tryz.prog pol [(149,scalS (sizeV 40)),(173,scalS (size16V 40)),(58,outS faultSp),(182,outS isSp)]) 2000 106 e80.1.1 e80.1.2=some e80.2:=by kernel_rfl
theorem r302:runP (envL Tryz.prog pol [(149,scalS (sizeV 40)),(173,scalS (size16V 40)),(58,outS faultSp),(182,outS isSp)]) 2000 153 e302.1.1 e302.1.2=some e302.2:=by kernel_rfl
theorem r303:runP (envL Tryz.prog pol [(149,scalS (sizeV 40)),(173,scalS (size16V 40)),(58,outS faultSp),(182,outS isSp)]) 2000 153 e303.1.1 e303.1.2=some e303.2:=by kernel_rfl
theorem r1011:runP (envL Tryz.prog pol [(149,scalS (sizeV 40)),(173,scalS (size16V 40)),(58,outS faultSp),(182,outS isSp)]) 2000 91 e1011.1.1 e1011.1.2=some e1011.2:=by kernel_rfl
theorem r1012:runP (envL Tryz.prog pol [(149,scalS (sizeV 40)),(173,scalS (size16V 40)),(58,outS faultSp),(182,outS isSp)]) 2000 91 e1012.1.1 e1012.1.2=some e1012.2:=by kernel_rfl
theorem r1013:runP (envL Tryz.prog pol [(149,scalS (sizeV 40)),(173,scalS (size16V 40)),(58,outS faultSp),(182,outS isSp)]) 2000 91 e1013.1.1 e1013.1.2=some e1013.2:=by kernel_rfl
theorem r1019:runP (envL Tryz.prog pol [(149,scalS (sizeV 40)),(173,scalS (size16V 40)),(58,outS faultSp),(182,outS isSp)]) 2000 91 e1019.1.1 e1019.1.2=some e1019.2:=by kernel_rfl
end Go.Proofs.YtjilhkjgejnmpaaGreatDoor
