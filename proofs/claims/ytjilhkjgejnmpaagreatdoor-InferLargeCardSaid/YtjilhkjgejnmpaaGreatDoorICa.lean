import Derived.Test.YtjilhkjgejnmpaaGreatDoorIDb
import Derived.Test.YtjilhkjgejnmpaaGreatDoorOSa
set_option linter.all false
noncomputable section
/- Cases. -/
namespace Go.Proofs.YtjilhkjgejnmpaaGreatDoor
open Go.J
theorem runI_0_false:runJ (envL Tryz.prog pol ((5,pureS trueV)::(6,conMod [(0,14,0)])::[(11,peekS [e34]),(12,peekS [e90]),(13,peekS [e534]),(14,peekS [e1027]),(149,scalS (sizeV 40)),(173,scalS (size16V 40)),(58,outS faultSp),(182,outS isSp)])) 2000 3 [.sym 0,.bool false]=some (.bool true):=by kernel_rfl
theorem runI_0_true:runJ (envL Tryz.prog pol ((5,pureS trueV)::(6,conMod [(0,14,0)])::[(11,peekS [e34,e65]),(12,peekS [e90]),(13,peekS [e102]),(14,peekS [e947]),(149,scalS (sizeV 40)),(173,scalS (size16V 40)),(58,outS faultSp),(182,outS isSp)])) 2000 3 [.sym 0,.bool true]=some (.bool true):=by kernel_rfl
theorem runI_1_false:runJ (envL Tryz.prog pol ((5,pureS trueV)::(6,conMod [(0,14,1)])::[(11,peekS [e32]),(12,peekS [e90]),(13,peekS [e545]),(14,peekS [e1030]),(149,scalS (sizeV 40)),(173,scalS (size16V 40)),(58,outS faultSp),(182,outS isSp)])) 2000 3 [.sym 0,.bool false]=some (.bool true):=by kernel_rfl
theorem runI_1_true:runJ (envL Tryz.prog pol ((5,pureS trueV)::(6,conMod [(0,14,1)])::[(11,peekS [e32,e63]),(12,peekS [e90]),(13,peekS [e134]),(14,peekS [e957]),(149,scalS (sizeV 40)),(173,scalS (size16V 40)),(58,outS faultSp),(182,outS isSp)])) 2000 3 [.sym 0,.bool true]=some (.bool true):=by kernel_rfl
theorem runI_2_false:runJ (envL Tryz.prog pol ((5,pureS trueV)::(6,conMod [(0,14,2)])::[(11,peekS [e30]),(12,peekS [e90]),(13,peekS [e560]),(14,peekS [e1039]),(149,scalS (sizeV 40)),(173,scalS (size16V 40)),(58,outS faultSp),(182,outS isSp)])) 2000 3 [.sym 0,.bool false]=some (.bool true):=by kernel_rfl
theorem runI_2_true:runJ (envL Tryz.prog pol ((5,pureS trueV)::(6,conMod [(0,14,2)])::[(11,peekS [e30,e61]),(12,peekS [e90]),(13,peekS [e165]),(14,peekS [e969]),(149,scalS (sizeV 40)),(173,scalS (size16V 40)),(58,outS faultSp),(182,outS isSp)])) 2000 3 [.sym 0,.bool true]=some (.bool true):=by kernel_rfl
theorem runI_3_false:runJ (envL Tryz.prog pol ((5,pureS trueV)::(6,conMod [(0,14,3)])::[(11,peekS [e28]),(12,peekS [e90]),(13,peekS [e580]),(14,peekS [e1052]),(149,scalS (sizeV 40)),(173,scalS (size16V 40)),(58,outS faultSp),(182,outS isSp)])) 2000 3 [.sym 0,.bool false]=some (.bool true):=by kernel_rfl
end Go.Proofs.YtjilhkjgejnmpaaGreatDoor
/- Cases. -/
namespace Go.Proofs.YtjilhkjgejnmpaaGreatDoor
open Go.J
theorem runI_3_true:runJ (envL Tryz.prog pol ((5,pureS trueV)::(6,conMod [(0,14,3)])::[(11,peekS [e28,e59]),(12,peekS [e90]),(13,peekS [e198]),(14,peekS [e981]),(149,scalS (sizeV 40)),(173,scalS (size16V 40)),(58,outS faultSp),(182,outS isSp)])) 2000 3 [.sym 0,.bool true]=some (.bool true):=by kernel_rfl
theorem runI_4_false:runJ (envL Tryz.prog pol ((5,pureS trueV)::(6,conMod [(0,14,4)])::[(11,peekS [e26]),(12,peekS [e90]),(13,peekS [e605]),(14,peekS [e1069]),(149,scalS (sizeV 40)),(173,scalS (size16V 40)),(58,outS faultSp),(182,outS isSp)])) 2000 3 [.sym 0,.bool false]=some (.bool true):=by kernel_rfl
theorem runI_4_true:runJ (envL Tryz.prog pol ((5,pureS trueV)::(6,conMod [(0,14,4)])::[(11,peekS [e26,e57]),(12,peekS [e90]),(13,peekS [e233]),(14,peekS [e993]),(149,scalS (sizeV 40)),(173,scalS (size16V 40)),(58,outS faultSp),(182,outS isSp)])) 2000 3 [.sym 0,.bool true]=some (.bool true):=by kernel_rfl
theorem runI_5_false:runJ (envL Tryz.prog pol ((5,pureS trueV)::(6,conMod [(0,14,5)])::[(11,peekS [e24]),(12,peekS [e90]),(13,peekS [e633]),(14,peekS [e1090]),(149,scalS (sizeV 40)),(173,scalS (size16V 40)),(58,outS faultSp),(182,outS isSp)])) 2000 3 [.sym 0,.bool false]=some (.bool true):=by kernel_rfl
theorem runI_5_true:runJ (envL Tryz.prog pol ((5,pureS trueV)::(6,conMod [(0,14,5)])::[(11,peekS [e24,e55]),(12,peekS [e90]),(13,peekS [e270]),(14,peekS [e1005]),(149,scalS (sizeV 40)),(173,scalS (size16V 40)),(58,outS faultSp),(182,outS isSp)])) 2000 3 [.sym 0,.bool true]=some (.bool true):=by kernel_rfl
theorem runI_6_false:runJ (envL Tryz.prog pol ((5,pureS trueV)::(6,conMod [(0,14,6)])::[(11,peekS [e22]),(12,peekS [e90]),(13,peekS [e666]),(14,peekS [e1115]),(149,scalS (sizeV 40)),(173,scalS (size16V 40)),(58,outS faultSp),(182,outS isSp)])) 2000 3 [.sym 0,.bool false]=some (.bool true):=by kernel_rfl
theorem runI_6_true:runJ (envL Tryz.prog pol ((5,pureS trueV)::(6,conMod [(0,14,6)])::[(11,peekS [e22,e53]),(12,peekS [e90]),(13,peekS [e309]),(14,peekS [e1017]),(149,scalS (sizeV 40)),(173,scalS (size16V 40)),(58,outS faultSp),(182,outS isSp)])) 2000 3 [.sym 0,.bool true]=some (.bool true):=by kernel_rfl
end Go.Proofs.YtjilhkjgejnmpaaGreatDoor
/- Cases. -/
namespace Go.Proofs.YtjilhkjgejnmpaaGreatDoor
open Go.J
theorem runI_7_false:runJ (envL Tryz.prog pol ((5,pureS trueV)::(6,conMod [(0,14,7)])::[(11,peekS [e20]),(12,peekS [e90]),(13,peekS [e698]),(14,peekS [e1140]),(149,scalS (sizeV 40)),(173,scalS (size16V 40)),(58,outS faultSp),(182,outS isSp)])) 2000 3 [.sym 0,.bool false]=some (.bool true):=by kernel_rfl
theorem runI_7_true:runJ (envL Tryz.prog pol ((5,pureS trueV)::(6,conMod [(0,14,7)])::[(11,peekS [e20,e51]),(12,peekS [e90]),(13,peekS [e337]),(14,peekS [e1020]),(149,scalS (sizeV 40)),(173,scalS (size16V 40)),(58,outS faultSp),(182,outS isSp)])) 2000 3 [.sym 0,.bool true]=some (.bool true):=by kernel_rfl
theorem runI_8_false:runJ (envL Tryz.prog pol ((5,pureS trueV)::(6,conMod [(0,14,8)])::[(11,peekS [e18]),(12,peekS [e90]),(13,peekS [e734]),(14,peekS [e1165]),(149,scalS (sizeV 40)),(173,scalS (size16V 40)),(58,outS faultSp),(182,outS isSp)])) 2000 3 [.sym 0,.bool false]=some (.bool true):=by kernel_rfl
theorem runI_8_true:runJ (envL Tryz.prog pol ((5,pureS trueV)::(6,conMod [(0,14,8)])::[(11,peekS [e18,e49]),(12,peekS [e90]),(13,peekS [e364]),(14,peekS [e1021]),(149,scalS (sizeV 40)),(173,scalS (size16V 40)),(58,outS faultSp),(182,outS isSp)])) 2000 3 [.sym 0,.bool true]=some (.bool true):=by kernel_rfl
theorem runI_9_false:runJ (envL Tryz.prog pol ((5,pureS trueV)::(6,conMod [(0,14,9)])::[(11,peekS [e16]),(12,peekS [e90]),(13,peekS [e771]),(14,peekS [e1190]),(149,scalS (sizeV 40)),(173,scalS (size16V 40)),(58,outS faultSp),(182,outS isSp)])) 2000 3 [.sym 0,.bool false]=some (.bool true):=by kernel_rfl
theorem runI_9_true:runJ (envL Tryz.prog pol ((5,pureS trueV)::(6,conMod [(0,14,9)])::[(11,peekS [e16,e47]),(12,peekS [e90]),(13,peekS [e393]),(14,peekS [e1022]),(149,scalS (sizeV 40)),(173,scalS (size16V 40)),(58,outS faultSp),(182,outS isSp)])) 2000 3 [.sym 0,.bool true]=some (.bool true):=by kernel_rfl
theorem runI_10_false:runJ (envL Tryz.prog pol ((5,pureS trueV)::(6,conMod [(0,14,10)])::[(11,peekS [e14]),(12,peekS [e90]),(13,peekS [e811]),(14,peekS [e1215]),(149,scalS (sizeV 40)),(173,scalS (size16V 40)),(58,outS faultSp),(182,outS isSp)])) 2000 3 [.sym 0,.bool false]=some (.bool true):=by kernel_rfl
end Go.Proofs.YtjilhkjgejnmpaaGreatDoor
/- Cases. -/
namespace Go.Proofs.YtjilhkjgejnmpaaGreatDoor
open Go.J
theorem runI_10_true:runJ (envL Tryz.prog pol ((5,pureS trueV)::(6,conMod [(0,14,10)])::[(11,peekS [e14,e45]),(12,peekS [e90]),(13,peekS [e424]),(14,peekS [e1023]),(149,scalS (sizeV 40)),(173,scalS (size16V 40)),(58,outS faultSp),(182,outS isSp)])) 2000 3 [.sym 0,.bool true]=some (.bool true):=by kernel_rfl
theorem runI_11_false:runJ (envL Tryz.prog pol ((5,pureS trueV)::(6,conMod [(0,14,11)])::[(11,peekS [e12]),(12,peekS [e90]),(13,peekS [e852]),(14,peekS [e1240]),(149,scalS (sizeV 40)),(173,scalS (size16V 40)),(58,outS faultSp),(182,outS isSp)])) 2000 3 [.sym 0,.bool false]=some (.bool true):=by kernel_rfl
theorem runI_11_true:runJ (envL Tryz.prog pol ((5,pureS trueV)::(6,conMod [(0,14,11)])::[(11,peekS [e12,e43]),(12,peekS [e90]),(13,peekS [e457]),(14,peekS [e1024]),(149,scalS (sizeV 40)),(173,scalS (size16V 40)),(58,outS faultSp),(182,outS isSp)])) 2000 3 [.sym 0,.bool true]=some (.bool true):=by kernel_rfl
theorem runI_12_false:runJ (envL Tryz.prog pol ((5,pureS trueV)::(6,conMod [(0,14,12)])::[(11,peekS [e10]),(12,peekS [e90]),(13,peekS [e895]),(14,peekS [e1265]),(149,scalS (sizeV 40)),(173,scalS (size16V 40)),(58,outS faultSp),(182,outS isSp)])) 2000 3 [.sym 0,.bool false]=some (.bool true):=by kernel_rfl
theorem runI_12_true:runJ (envL Tryz.prog pol ((5,pureS trueV)::(6,conMod [(0,14,12)])::[(11,peekS [e10,e41]),(12,peekS [e90]),(13,peekS [e492]),(14,peekS [e1025]),(149,scalS (sizeV 40)),(173,scalS (size16V 40)),(58,outS faultSp),(182,outS isSp)])) 2000 3 [.sym 0,.bool true]=some (.bool true):=by kernel_rfl
theorem runI_13_false:runJ (envL Tryz.prog pol ((5,pureS trueV)::(6,conMod [(0,14,13)])::[(11,peekS [e8]),(12,peekS [e90]),(13,peekS [e940]),(14,peekS [e1290]),(149,scalS (sizeV 40)),(173,scalS (size16V 40)),(58,outS faultSp),(182,outS isSp)])) 2000 3 [.sym 0,.bool false]=some (.bool true):=by kernel_rfl
theorem runI_13_true:runJ (envL Tryz.prog pol ((5,pureS trueV)::(6,conMod [(0,14,13)])::[(11,peekS [e8,e39]),(12,peekS [e90]),(13,peekS [e529]),(14,peekS [e1026]),(149,scalS (sizeV 40)),(173,scalS (size16V 40)),(58,outS faultSp),(182,outS isSp)])) 2000 3 [.sym 0,.bool true]=some (.bool true):=by kernel_rfl
end Go.Proofs.YtjilhkjgejnmpaaGreatDoor
