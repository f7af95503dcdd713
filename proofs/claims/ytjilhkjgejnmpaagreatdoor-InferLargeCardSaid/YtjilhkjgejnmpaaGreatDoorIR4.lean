import Derived.Test.YtjilhkjgejnmpaaGreatDoorIDb
set_option linter.all false
noncomputable section
/- Runs. -/
namespace Go.Proofs.YtjilhkjgejnmpaaGreatDoor
open Go.J
theorem r24:runP (envL Tryz.prog pol [(44,peekS [e23]),(149,scalS (sizeV 40)),(173,scalS (size16V 40)),(58,outS faultSp),(182,outS isSp)]) 2000 11 e24.1.1 e24.1.2=some e24.2:=by kernel_rfl
theorem r39:runP (envL Tryz.prog pol [(44,peekS [e38]),(149,scalS (sizeV 40)),(173,scalS (size16V 40)),(58,outS faultSp),(182,outS isSp)]) 2000 11 e39.1.1 e39.1.2=some e39.2:=by kernel_rfl
theorem r457:runP (envL Tryz.prog pol [(57,peekS [e94,e116,e149,e182,e217,e254,e293]),(64,peekS [e95]),(134,peekS [e97,e118,e119,e151,e152,e184,e185,e219,e220,e256,e257,e295,e296,e334]),(212,peekS [e100,e130,e131,e162,e195,e230,e267,e306]),(213,peekS [e101,e132,e133,e163,e164,e196,e197,e231,e232,e268,e269,e307,e308,e336]),(150,peekS [e120,e121,e122,e153,e154,e155,e156,e186,e187,e188,e189,e221,e222,e223,e224,e258,e259,e260,e261,e297,e298,e299,e300,e335]),(153,peekS [e124,e158,e191,e226,e263,e302]),(181,peekS [e127,e161,e194,e229,e266,e305]),(50,peekS [e440]),(52,peekS [e456]),(149,scalS (sizeV 40)),(173,scalS (size16V 40)),(58,outS faultSp),(182,outS isSp)]) 2000 13 e457.1.1 e457.1.2=some e457.2:=by kernel_rfl
theorem r492:runP (envL Tryz.prog pol [(57,peekS [e94,e116,e149,e182,e217,e254,e293]),(64,peekS [e95]),(134,peekS [e97,e118,e119,e151,e152,e184,e185,e219,e220,e256,e257,e295,e296,e334]),(212,peekS [e100,e130,e131,e162,e195,e230,e267,e306]),(213,peekS [e101,e132,e133,e163,e164,e196,e197,e231,e232,e268,e269,e307,e308,e336]),(150,peekS [e120,e121,e122,e153,e154,e155,e156,e186,e187,e188,e189,e221,e222,e223,e224,e258,e259,e260,e261,e297,e298,e299,e300,e335]),(153,peekS [e124,e158,e191,e226,e263,e302]),(181,peekS [e127,e161,e194,e229,e266,e305]),(50,peekS [e474]),(52,peekS [e491]),(149,scalS (sizeV 40)),(173,scalS (size16V 40)),(58,outS faultSp),(182,outS isSp)]) 2000 13 e492.1.1 e492.1.2=some e492.2:=by kernel_rfl
end Go.Proofs.YtjilhkjgejnmpaaGreatDoor
