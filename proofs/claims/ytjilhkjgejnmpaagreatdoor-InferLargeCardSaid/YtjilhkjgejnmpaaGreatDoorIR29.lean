import Derived.Test.YtjilhkjgejnmpaaGreatDoorIDb
set_option linter.all false
noncomputable section
/- Runs. -/
namespace Go.Proofs.YtjilhkjgejnmpaaGreatDoor
open Go.J
theorem r1:runP (envL Tryz.prog pol [(149,scalS (sizeV 40)),(173,scalS (size16V 40)),(58,outS faultSp),(182,outS isSp)]) 2000 106 e1.1.1 e1.1.2=some e1.2:=by kernel_rfl
theorem r2:runP (envL Tryz.prog pol [(149,scalS (sizeV 40)),(173,scalS (size16V 40)),(58,outS faultSp),(182,outS isSp)]) 2000 106 e2.1.1 e2.1.2=some e2.2:=by kernel_rfl
theorem r5:runP (envL Tryz.prog pol [(149,scalS (sizeV 40)),(173,scalS (size16V 40)),(58,outS faultSp),(182,outS isSp)]) 2000 106 e5.1.1 e5.1.2=some e5.2:=by kernel_rfl
theorem r6:runP (envL Tryz.prog pol [(149,scalS (sizeV 40)),(173,scalS (size16V 40)),(58,outS faultSp),(182,outS isSp)]) 2000 106 e6.1.1 e6.1.2=some e6.2:=by kernel_rfl
theorem r68:runP (envL Tryz.prog pol [(149,scalS (sizeV 40)),(173,scalS (size16V 40)),(58,outS faultSp),(182,outS isSp)]) 2000 106 e68.1.1 e68.1.2=some e68.2:=by kernel_rfl
theorem r87:runP (envL Tryz.prog pol [(149,scalS (sizeV 40)),(173,scalS (size16V 40)),(58,outS faultSp),(182,outS isSp)]) 2000 106 e87.1.1 e87.1.2=some e87.2:=by kernel_rfl
theorem r88:runP (envL Tryz.prog pol [(149,scalS (sizeV 40)),(173,scalS (size16V 40)),(58,outS faultSp),(182,outS isSp)]) 2000 106 e88.1.1 e88.1.2=some e88.2:=by kernel_rfl
theorem r93:runP (envL Tryz.prog pol [(149,scalS (sizeV 40)),(173,scalS (size16V 40)),(58,outS faultSp),(182,outS isSp)]) 2000 52 e93.1.1 e93.1.2=some e93.2:=by kernel_rfl
theorem r115:runP (envL Tryz.prog pol [(208,peekS [e109]),(52,peekS [e114]),(149,scalS (sizeV 40)),(173,scalS (size16V 40)),(58,outS faultSp),(182,outS isSp)]) 2000 52 e115.1.1 e115.1.2=some e115.2:=by kernel_rfl
theorem r148:runP (envL Tryz.prog pol [(208,peekS [e109]),(52,peekS [e147]),(149,scalS (sizeV 40)),(173,scalS (size16V 40)),(58,outS faultSp),(182,outS isSp)]) 2000 52 e148.1.1 e148.1.2=some e148.2:=by kernel_rfl
theorem r156:runP (envL Tryz.prog pol [(149,scalS (sizeV 40)),(173,scalS (size16V 40)),(58,outS faultSp),(182,outS isSp)]) 2000 150 e156.1.1 e156.1.2=some e156.2:=by kernel_rfl
theorem r160:runP (envL Tryz.prog pol [(149,scalS (sizeV 40)),(173,scalS (size16V 40)),(58,outS faultSp),(182,outS isSp)]) 2000 64 e160.1.1 e160.1.2=some e160.2:=by kernel_rfl
theorem r163:runP (envL Tryz.prog pol [(149,scalS (sizeV 40)),(173,scalS (size16V 40)),(58,outS faultSp),(182,outS isSp)]) 2000 213 e163.1.1 e163.1.2=some e163.2:=by kernel_rfl
theorem r181:runP (envL Tryz.prog pol [(208,peekS [e109]),(52,peekS [e180]),(149,scalS (sizeV 40)),(173,scalS (size16V 40)),(58,outS faultSp),(182,outS isSp)]) 2000 52 e181.1.1 e181.1.2=some e181.2:=by kernel_rfl
theorem r187:runP (envL Tryz.prog pol [(149,scalS (sizeV 40)),(173,scalS (size16V 40)),(58,outS faultSp),(182,outS isSp)]) 2000 150 e187.1.1 e187.1.2=some e187.2:=by kernel_rfl
theorem r188:runP (envL Tryz.prog pol [(149,scalS (sizeV 40)),(173,scalS (size16V 40)),(58,outS faultSp),(182,outS isSp)]) 2000 150 e188.1.1 e188.1.2=some e188.2:=by kernel_rfl
theorem r216:runP (envL Tryz.prog pol [(208,peekS [e109]),(52,peekS [e215]),(149,scalS (sizeV 40)),(173,scalS (size16V 40)),(58,outS faultSp),(182,outS isSp)]) 2000 52 e216.1.1 e216.1.2=some e216.2:=by kernel_rfl
theorem r217:runP (envL Tryz.prog pol [(149,scalS (sizeV 40)),(173,scalS (size16V 40)),(58,outS faultSp),(182,outS isSp)]) 2000 57 e217.1.1 e217.1.2=some e217.2:=by kernel_rfl
theorem r253:runP (envL Tryz.prog pol [(208,peekS [e109]),(52,peekS [e252]),(149,scalS (sizeV 40)),(173,scalS (size16V 40)),(58,outS faultSp),(182,outS isSp)]) 2000 52 e253.1.1 e253.1.2=some e253.2:=by kernel_rfl
theorem r292:runP (envL Tryz.prog pol [(208,peekS [e109]),(52,peekS [e291]),(149,scalS (sizeV 40)),(173,scalS (size16V 40)),(58,outS faultSp),(182,outS isSp)]) 2000 52 e292.1.1 e292.1.2=some e292.2:=by kernel_rfl
theorem r333:runP (envL Tryz.prog pol [(208,peekS [e109]),(52,peekS [e332]),(149,scalS (sizeV 40)),(173,scalS (size16V 40)),(58,outS faultSp),(182,outS isSp)]) 2000 52 e333.1.1 e333.1.2=some e333.2:=by kernel_rfl
theorem r363:runP (envL Tryz.prog pol [(208,peekS [e109]),(52,peekS [e362]),(149,scalS (sizeV 40)),(173,scalS (size16V 40)),(58,outS faultSp),(182,outS isSp)]) 2000 52 e363.1.1 e363.1.2=some e363.2:=by kernel_rfl
theorem r392:runP (envL Tryz.prog pol [(208,peekS [e109]),(52,peekS [e391]),(149,scalS (sizeV 40)),(173,scalS (size16V 40)),(58,outS faultSp),(182,outS isSp)]) 2000 52 e392.1.1 e392.1.2=some e392.2:=by kernel_rfl
theorem r416:runP (envL Tryz.prog pol [(208,peekS [e109]),(52,peekS [e325,e415]),(149,scalS (sizeV 40)),(173,scalS (size16V 40)),(58,outS faultSp),(182,outS isSp)]) 2000 52 e416.1.1 e416.1.2=some e416.2:=by kernel_rfl
theorem r417:runP (envL Tryz.prog pol [(208,peekS [e109]),(52,peekS [e285,e416]),(149,scalS (sizeV 40)),(173,scalS (size16V 40)),(58,outS faultSp),(182,outS isSp)]) 2000 52 e417.1.1 e417.1.2=some e417.2:=by kernel_rfl
theorem r418:runP (envL Tryz.prog pol [(208,peekS [e109]),(52,peekS [e247,e417]),(149,scalS (sizeV 40)),(173,scalS (size16V 40)),(58,outS faultSp),(182,outS isSp)]) 2000 52 e418.1.1 e418.1.2=some e418.2:=by kernel_rfl
theorem r419:runP (envL Tryz.prog pol [(208,peekS [e109]),(52,peekS [e211,e418]),(149,scalS (sizeV 40)),(173,scalS (size16V 40)),(58,outS faultSp),(182,outS isSp)]) 2000 52 e419.1.1 e419.1.2=some e419.2:=by kernel_rfl
theorem r420:runP (envL Tryz.prog pol [(208,peekS [e109]),(52,peekS [e177,e419]),(149,scalS (sizeV 40)),(173,scalS (size16V 40)),(58,outS faultSp),(182,outS isSp)]) 2000 52 e420.1.1 e420.1.2=some e420.2:=by kernel_rfl
theorem r421:runP (envL Tryz.prog pol [(208,peekS [e109]),(52,peekS [e145,e420]),(149,scalS (sizeV 40)),(173,scalS (size16V 40)),(58,outS faultSp),(182,outS isSp)]) 2000 52 e421.1.1 e421.1.2=some e421.2:=by kernel_rfl
theorem r422:runP (envL Tryz.prog pol [(208,peekS [e109]),(52,peekS [e113,e421]),(149,scalS (sizeV 40)),(173,scalS (size16V 40)),(58,outS faultSp),(182,outS isSp)]) 2000 52 e422.1.1 e422.1.2=some e422.2:=by kernel_rfl
theorem r423:runP (envL Tryz.prog pol [(208,peekS [e109]),(52,peekS [e422]),(149,scalS (sizeV 40)),(173,scalS (size16V 40)),(58,outS faultSp),(182,outS isSp)]) 2000 52 e423.1.1 e423.1.2=some e423.2:=by kernel_rfl
theorem r445:runP (envL Tryz.prog pol [(208,peekS [e109]),(52,peekS [e441,e444]),(149,scalS (sizeV 40)),(173,scalS (size16V 40)),(58,outS faultSp),(182,outS isSp)]) 2000 52 e445.1.1 e445.1.2=some e445.2:=by kernel_rfl
theorem r446:runP (envL Tryz.prog pol [(208,peekS [e109]),(52,peekS [e412,e445]),(149,scalS (sizeV 40)),(173,scalS (size16V 40)),(58,outS faultSp),(182,outS isSp)]) 2000 52 e446.1.1 e446.1.2=some e446.2:=by kernel_rfl
theorem r447:runP (envL Tryz.prog pol [(208,peekS [e109]),(52,peekS [e382,e446]),(149,scalS (sizeV 40)),(173,scalS (size16V 40)),(58,outS faultSp),(182,outS isSp)]) 2000 52 e447.1.1 e447.1.2=some e447.2:=by kernel_rfl
theorem r448:runP (envL Tryz.prog pol [(208,peekS [e109]),(52,peekS [e354,e447]),(149,scalS (sizeV 40)),(173,scalS (size16V 40)),(58,outS faultSp),(182,outS isSp)]) 2000 52 e448.1.1 e448.1.2=some e448.2:=by kernel_rfl
theorem r449:runP (envL Tryz.prog pol [(208,peekS [e109]),(52,peekS [e325,e448]),(149,scalS (sizeV 40)),(173,scalS (size16V 40)),(58,outS faultSp),(182,outS isSp)]) 2000 52 e449.1.1 e449.1.2=some e449.2:=by kernel_rfl
theorem r450:runP (envL Tryz.prog pol [(208,peekS [e109]),(52,peekS [e285,e449]),(149,scalS (sizeV 40)),(173,scalS (size16V 40)),(58,outS faultSp),(182,outS isSp)]) 2000 52 e450.1.1 e450.1.2=some e450.2:=by kernel_rfl
theorem r451:runP (envL Tryz.prog pol [(208,peekS [e109]),(52,peekS [e247,e450]),(149,scalS (sizeV 40)),(173,scalS (size16V 40)),(58,outS faultSp),(182,outS isSp)]) 2000 52 e451.1.1 e451.1.2=some e451.2:=by kernel_rfl
theorem r452:runP (envL Tryz.prog pol [(208,peekS [e109]),(52,peekS [e211,e451]),(149,scalS (sizeV 40)),(173,scalS (size16V 40)),(58,outS faultSp),(182,outS isSp)]) 2000 52 e452.1.1 e452.1.2=some e452.2:=by kernel_rfl
theorem r453:runP (envL Tryz.prog pol [(208,peekS [e109]),(52,peekS [e177,e452]),(149,scalS (sizeV 40)),(173,scalS (size16V 40)),(58,outS faultSp),(182,outS isSp)]) 2000 52 e453.1.1 e453.1.2=some e453.2:=by kernel_rfl
theorem r454:runP (envL Tryz.prog pol [(208,peekS [e109]),(52,peekS [e145,e453]),(149,scalS (sizeV 40)),(173,scalS (size16V 40)),(58,outS faultSp),(182,outS isSp)]) 2000 52 e454.1.1 e454.1.2=some e454.2:=by kernel_rfl
theorem r455:runP (envL Tryz.prog pol [(208,peekS [e109]),(52,peekS [e113,e454]),(149,scalS (sizeV 40)),(173,scalS (size16V 40)),(58,outS faultSp),(182,outS isSp)]) 2000 52 e455.1.1 e455.1.2=some e455.2:=by kernel_rfl
theorem r456:runP (envL Tryz.prog pol [(208,peekS [e109]),(52,peekS [e455]),(149,scalS (sizeV 40)),(173,scalS (size16V 40)),(58,outS faultSp),(182,outS isSp)]) 2000 52 e456.1.1 e456.1.2=some e456.2:=by kernel_rfl
theorem r479:runP (envL Tryz.prog pol [(208,peekS [e109]),(52,peekS [e475,e478]),(149,scalS (sizeV 40)),(173,scalS (size16V 40)),(58,outS faultSp),(182,outS isSp)]) 2000 52 e479.1.1 e479.1.2=some e479.2:=by kernel_rfl
theorem r480:runP (envL Tryz.prog pol [(208,peekS [e109]),(52,peekS [e444,e479]),(149,scalS (sizeV 40)),(173,scalS (size16V 40)),(58,outS faultSp),(182,outS isSp)]) 2000 52 e480.1.1 e480.1.2=some e480.2:=by kernel_rfl
theorem r481:runP (envL Tryz.prog pol [(208,peekS [e109]),(52,peekS [e412,e480]),(149,scalS (sizeV 40)),(173,scalS (size16V 40)),(58,outS faultSp),(182,outS isSp)]) 2000 52 e481.1.1 e481.1.2=some e481.2:=by kernel_rfl
theorem r482:runP (envL Tryz.prog pol [(208,peekS [e109]),(52,peekS [e382,e481]),(149,scalS (sizeV 40)),(173,scalS (size16V 40)),(58,outS faultSp),(182,outS isSp)]) 2000 52 e482.1.1 e482.1.2=some e482.2:=by kernel_rfl
theorem r483:runP (envL Tryz.prog pol [(208,peekS [e109]),(52,peekS [e354,e482]),(149,scalS (sizeV 40)),(173,scalS (size16V 40)),(58,outS faultSp),(182,outS isSp)]) 2000 52 e483.1.1 e483.1.2=some e483.2:=by kernel_rfl
theorem r484:runP (envL Tryz.prog pol [(208,peekS [e109]),(52,peekS [e325,e483]),(149,scalS (sizeV 40)),(173,scalS (size16V 40)),(58,outS faultSp),(182,outS isSp)]) 2000 52 e484.1.1 e484.1.2=some e484.2:=by kernel_rfl
theorem r485:runP (envL Tryz.prog pol [(208,peekS [e109]),(52,peekS [e285,e484]),(149,scalS (sizeV 40)),(173,scalS (size16V 40)),(58,outS faultSp),(182,outS isSp)]) 2000 52 e485.1.1 e485.1.2=some e485.2:=by kernel_rfl
theorem r486:runP (envL Tryz.prog pol [(208,peekS [e109]),(52,peekS [e247,e485]),(149,scalS (sizeV 40)),(173,scalS (size16V 40)),(58,outS faultSp),(182,outS isSp)]) 2000 52 e486.1.1 e486.1.2=some e486.2:=by kernel_rfl
theorem r487:runP (envL Tryz.prog pol [(208,peekS [e109]),(52,peekS [e211,e486]),(149,scalS (sizeV 40)),(173,scalS (size16V 40)),(58,outS faultSp),(182,outS isSp)]) 2000 52 e487.1.1 e487.1.2=some e487.2:=by kernel_rfl
theorem r488:runP (envL Tryz.prog pol [(208,peekS [e109]),(52,peekS [e177,e487]),(149,scalS (sizeV 40)),(173,scalS (size16V 40)),(58,outS faultSp),(182,outS isSp)]) 2000 52 e488.1.1 e488.1.2=some e488.2:=by kernel_rfl
theorem r489:runP (envL Tryz.prog pol [(208,peekS [e109]),(52,peekS [e145,e488]),(149,scalS (sizeV 40)),(173,scalS (size16V 40)),(58,outS faultSp),(182,outS isSp)]) 2000 52 e489.1.1 e489.1.2=some e489.2:=by kernel_rfl
theorem r490:runP (envL Tryz.prog pol [(208,peekS [e109]),(52,peekS [e113,e489]),(149,scalS (sizeV 40)),(173,scalS (size16V 40)),(58,outS faultSp),(182,outS isSp)]) 2000 52 e490.1.1 e490.1.2=some e490.2:=by kernel_rfl
theorem r491:runP (envL Tryz.prog pol [(208,peekS [e109]),(52,peekS [e490]),(149,scalS (sizeV 40)),(173,scalS (size16V 40)),(58,outS faultSp),(182,outS isSp)]) 2000 52 e491.1.1 e491.1.2=some e491.2:=by kernel_rfl
theorem r515:runP (envL Tryz.prog pol [(208,peekS [e109]),(52,peekS [e511,e514]),(149,scalS (sizeV 40)),(173,scalS (size16V 40)),(58,outS faultSp),(182,outS isSp)]) 2000 52 e515.1.1 e515.1.2=some e515.2:=by kernel_rfl
theorem r516:runP (envL Tryz.prog pol [(208,peekS [e109]),(52,peekS [e478,e515]),(149,scalS (sizeV 40)),(173,scalS (size16V 40)),(58,outS faultSp),(182,outS isSp)]) 2000 52 e516.1.1 e516.1.2=some e516.2:=by kernel_rfl
theorem r517:runP (envL Tryz.prog pol [(208,peekS [e109]),(52,peekS [e444,e516]),(149,scalS (sizeV 40)),(173,scalS (size16V 40)),(58,outS faultSp),(182,outS isSp)]) 2000 52 e517.1.1 e517.1.2=some e517.2:=by kernel_rfl
theorem r518:runP (envL Tryz.prog pol [(208,peekS [e109]),(52,peekS [e412,e517]),(149,scalS (sizeV 40)),(173,scalS (size16V 40)),(58,outS faultSp),(182,outS isSp)]) 2000 52 e518.1.1 e518.1.2=some e518.2:=by kernel_rfl
theorem r519:runP (envL Tryz.prog pol [(208,peekS [e109]),(52,peekS [e382,e518]),(149,scalS (sizeV 40)),(173,scalS (size16V 40)),(58,outS faultSp),(182,outS isSp)]) 2000 52 e519.1.1 e519.1.2=some e519.2:=by kernel_rfl
theorem r520:runP (envL Tryz.prog pol [(208,peekS [e109]),(52,peekS [e354,e519]),(149,scalS (sizeV 40)),(173,scalS (size16V 40)),(58,outS faultSp),(182,outS isSp)]) 2000 52 e520.1.1 e520.1.2=some e520.2:=by kernel_rfl
theorem r521:runP (envL Tryz.prog pol [(208,peekS [e109]),(52,peekS [e325,e520]),(149,scalS (sizeV 40)),(173,scalS (size16V 40)),(58,outS faultSp),(182,outS isSp)]) 2000 52 e521.1.1 e521.1.2=some e521.2:=by kernel_rfl
theorem r522:runP (envL Tryz.prog pol [(208,peekS [e109]),(52,peekS [e285,e521]),(149,scalS (sizeV 40)),(173,scalS (size16V 40)),(58,outS faultSp),(182,outS isSp)]) 2000 52 e522.1.1 e522.1.2=some e522.2:=by kernel_rfl
theorem r523:runP (envL Tryz.prog pol [(208,peekS [e109]),(52,peekS [e247,e522]),(149,scalS (sizeV 40)),(173,scalS (size16V 40)),(58,outS faultSp),(182,outS isSp)]) 2000 52 e523.1.1 e523.1.2=some e523.2:=by kernel_rfl
theorem r524:runP (envL Tryz.prog pol [(208,peekS [e109]),(52,peekS [e211,e523]),(149,scalS (sizeV 40)),(173,scalS (size16V 40)),(58,outS faultSp),(182,outS isSp)]) 2000 52 e524.1.1 e524.1.2=some e524.2:=by kernel_rfl
theorem r525:runP (envL Tryz.prog pol [(208,peekS [e109]),(52,peekS [e177,e524]),(149,scalS (sizeV 40)),(173,scalS (size16V 40)),(58,outS faultSp),(182,outS isSp)]) 2000 52 e525.1.1 e525.1.2=some e525.2:=by kernel_rfl
theorem r526:runP (envL Tryz.prog pol [(208,peekS [e109]),(52,peekS [e145,e525]),(149,scalS (sizeV 40)),(173,scalS (size16V 40)),(58,outS faultSp),(182,outS isSp)]) 2000 52 e526.1.1 e526.1.2=some e526.2:=by kernel_rfl
theorem r527:runP (envL Tryz.prog pol [(208,peekS [e109]),(52,peekS [e113,e526]),(149,scalS (sizeV 40)),(173,scalS (size16V 40)),(58,outS faultSp),(182,outS isSp)]) 2000 52 e527.1.1 e527.1.2=some e527.2:=by kernel_rfl
theorem r528:runP (envL Tryz.prog pol [(208,peekS [e109]),(52,peekS [e527]),(149,scalS (sizeV 40)),(173,scalS (size16V 40)),(58,outS faultSp),(182,outS isSp)]) 2000 52 e528.1.1 e528.1.2=some e528.2:=by kernel_rfl
theorem r533:runP (envL Tryz.prog pol [(208,peekS [e109]),(52,peekS [e532]),(149,scalS (sizeV 40)),(173,scalS (size16V 40)),(58,outS faultSp),(182,outS isSp)]) 2000 52 e533.1.1 e533.1.2=some e533.2:=by kernel_rfl
theorem r542:runP (envL Tryz.prog pol [(208,peekS [e109]),(52,peekS [e541]),(149,scalS (sizeV 40)),(173,scalS (size16V 40)),(58,outS faultSp),(182,outS isSp)]) 2000 52 e542.1.1 e542.1.2=some e542.2:=by kernel_rfl
theorem r543:runP (envL Tryz.prog pol [(149,scalS (sizeV 40)),(173,scalS (size16V 40)),(58,outS faultSp),(182,outS isSp)]) 2000 150 e543.1.1 e543.1.2=some e543.2:=by kernel_rfl
theorem r553:runP (envL Tryz.prog pol [(208,peekS [e109]),(52,peekS [e552]),(149,scalS (sizeV 40)),(173,scalS (size16V 40)),(58,outS faultSp),(182,outS isSp)]) 2000 52 e553.1.1 e553.1.2=some e553.2:=by kernel_rfl
theorem r556:runP (envL Tryz.prog pol [(149,scalS (sizeV 40)),(173,scalS (size16V 40)),(58,outS faultSp),(182,outS isSp)]) 2000 150 e556.1.1 e556.1.2=some e556.2:=by kernel_rfl
theorem r572:runP (envL Tryz.prog pol [(208,peekS [e109]),(52,peekS [e571]),(149,scalS (sizeV 40)),(173,scalS (size16V 40)),(58,outS faultSp),(182,outS isSp)]) 2000 52 e572.1.1 e572.1.2=some e572.2:=by kernel_rfl
theorem r575:runP (envL Tryz.prog pol [(149,scalS (sizeV 40)),(173,scalS (size16V 40)),(58,outS faultSp),(182,outS isSp)]) 2000 150 e575.1.1 e575.1.2=some e575.2:=by kernel_rfl
theorem r576:runP (envL Tryz.prog pol [(149,scalS (sizeV 40)),(173,scalS (size16V 40)),(58,outS faultSp),(182,outS isSp)]) 2000 150 e576.1.1 e576.1.2=some e576.2:=by kernel_rfl
theorem r594:runP (envL Tryz.prog pol [(208,peekS [e109]),(52,peekS [e593]),(149,scalS (sizeV 40)),(173,scalS (size16V 40)),(58,outS faultSp),(182,outS isSp)]) 2000 52 e594.1.1 e594.1.2=some e594.2:=by kernel_rfl
theorem r596:runP (envL Tryz.prog pol [(149,scalS (sizeV 40)),(173,scalS (size16V 40)),(58,outS faultSp),(182,outS isSp)]) 2000 150 e596.1.1 e596.1.2=some e596.2:=by kernel_rfl
theorem r598:runP (envL Tryz.prog pol [(149,scalS (sizeV 40)),(173,scalS (size16V 40)),(58,outS faultSp),(182,outS isSp)]) 2000 150 e598.1.1 e598.1.2=some e598.2:=by kernel_rfl
theorem r621:runP (envL Tryz.prog pol [(208,peekS [e109]),(52,peekS [e620]),(149,scalS (sizeV 40)),(173,scalS (size16V 40)),(58,outS faultSp),(182,outS isSp)]) 2000 52 e621.1.1 e621.1.2=some e621.2:=by kernel_rfl
theorem r629:runP (envL Tryz.prog pol [(149,scalS (sizeV 40)),(173,scalS (size16V 40)),(58,outS faultSp),(182,outS isSp)]) 2000 150 e629.1.1 e629.1.2=some e629.2:=by kernel_rfl
theorem r630:runP (envL Tryz.prog pol [(149,scalS (sizeV 40)),(173,scalS (size16V 40)),(58,outS faultSp),(182,outS isSp)]) 2000 150 e630.1.1 e630.1.2=some e630.2:=by kernel_rfl
theorem r651:runP (envL Tryz.prog pol [(208,peekS [e109]),(52,peekS [e650]),(149,scalS (sizeV 40)),(173,scalS (size16V 40)),(58,outS faultSp),(182,outS isSp)]) 2000 52 e651.1.1 e651.1.2=some e651.2:=by kernel_rfl
theorem r652:runP (envL Tryz.prog pol [(149,scalS (sizeV 40)),(173,scalS (size16V 40)),(58,outS faultSp),(182,outS isSp)]) 2000 150 e652.1.1 e652.1.2=some e652.2:=by kernel_rfl
theorem r663:runP (envL Tryz.prog pol [(149,scalS (sizeV 40)),(173,scalS (size16V 40)),(58,outS faultSp),(182,outS isSp)]) 2000 150 e663.1.1 e663.1.2=some e663.2:=by kernel_rfl
theorem r685:runP (envL Tryz.prog pol [(208,peekS [e109]),(52,peekS [e684]),(149,scalS (sizeV 40)),(173,scalS (size16V 40)),(58,outS faultSp),(182,outS isSp)]) 2000 52 e685.1.1 e685.1.2=some e685.2:=by kernel_rfl
theorem r687:runP (envL Tryz.prog pol [(149,scalS (sizeV 40)),(173,scalS (size16V 40)),(58,outS faultSp),(182,outS isSp)]) 2000 150 e687.1.1 e687.1.2=some e687.2:=by kernel_rfl
theorem r688:runP (envL Tryz.prog pol [(149,scalS (sizeV 40)),(173,scalS (size16V 40)),(58,outS faultSp),(182,outS isSp)]) 2000 150 e688.1.1 e688.1.2=some e688.2:=by kernel_rfl
theorem r720:runP (envL Tryz.prog pol [(208,peekS [e109]),(52,peekS [e719]),(149,scalS (sizeV 40)),(173,scalS (size16V 40)),(58,outS faultSp),(182,outS isSp)]) 2000 52 e720.1.1 e720.1.2=some e720.2:=by kernel_rfl
theorem r723:runP (envL Tryz.prog pol [(149,scalS (sizeV 40)),(173,scalS (size16V 40)),(58,outS faultSp),(182,outS isSp)]) 2000 150 e723.1.1 e723.1.2=some e723.2:=by kernel_rfl
theorem r724:runP (envL Tryz.prog pol [(149,scalS (sizeV 40)),(173,scalS (size16V 40)),(58,outS faultSp),(182,outS isSp)]) 2000 150 e724.1.1 e724.1.2=some e724.2:=by kernel_rfl
theorem r758:runP (envL Tryz.prog pol [(208,peekS [e109]),(52,peekS [e757]),(149,scalS (sizeV 40)),(173,scalS (size16V 40)),(58,outS faultSp),(182,outS isSp)]) 2000 52 e758.1.1 e758.1.2=some e758.2:=by kernel_rfl
theorem r761:runP (envL Tryz.prog pol [(149,scalS (sizeV 40)),(173,scalS (size16V 40)),(58,outS faultSp),(182,outS isSp)]) 2000 150 e761.1.1 e761.1.2=some e761.2:=by kernel_rfl
theorem r762:runP (envL Tryz.prog pol [(149,scalS (sizeV 40)),(173,scalS (size16V 40)),(58,outS faultSp),(182,outS isSp)]) 2000 150 e762.1.1 e762.1.2=some e762.2:=by kernel_rfl
theorem r797:runP (envL Tryz.prog pol [(208,peekS [e109]),(52,peekS [e796]),(149,scalS (sizeV 40)),(173,scalS (size16V 40)),(58,outS faultSp),(182,outS isSp)]) 2000 52 e797.1.1 e797.1.2=some e797.2:=by kernel_rfl
theorem r800:runP (envL Tryz.prog pol [(149,scalS (sizeV 40)),(173,scalS (size16V 40)),(58,outS faultSp),(182,outS isSp)]) 2000 150 e800.1.1 e800.1.2=some e800.2:=by kernel_rfl
theorem r801:runP (envL Tryz.prog pol [(149,scalS (sizeV 40)),(173,scalS (size16V 40)),(58,outS faultSp),(182,outS isSp)]) 2000 150 e801.1.1 e801.1.2=some e801.2:=by kernel_rfl
theorem r839:runP (envL Tryz.prog pol [(208,peekS [e109]),(52,peekS [e838]),(149,scalS (sizeV 40)),(173,scalS (size16V 40)),(58,outS faultSp),(182,outS isSp)]) 2000 52 e839.1.1 e839.1.2=some e839.2:=by kernel_rfl
theorem r842:runP (envL Tryz.prog pol [(149,scalS (sizeV 40)),(173,scalS (size16V 40)),(58,outS faultSp),(182,outS isSp)]) 2000 150 e842.1.1 e842.1.2=some e842.2:=by kernel_rfl
theorem r843:runP (envL Tryz.prog pol [(149,scalS (sizeV 40)),(173,scalS (size16V 40)),(58,outS faultSp),(182,outS isSp)]) 2000 150 e843.1.1 e843.1.2=some e843.2:=by kernel_rfl
theorem r881:runP (envL Tryz.prog pol [(208,peekS [e109]),(52,peekS [e880]),(149,scalS (sizeV 40)),(173,scalS (size16V 40)),(58,outS faultSp),(182,outS isSp)]) 2000 52 e881.1.1 e881.1.2=some e881.2:=by kernel_rfl
theorem r884:runP (envL Tryz.prog pol [(149,scalS (sizeV 40)),(173,scalS (size16V 40)),(58,outS faultSp),(182,outS isSp)]) 2000 150 e884.1.1 e884.1.2=some e884.2:=by kernel_rfl
theorem r885:runP (envL Tryz.prog pol [(149,scalS (sizeV 40)),(173,scalS (size16V 40)),(58,outS faultSp),(182,outS isSp)]) 2000 150 e885.1.1 e885.1.2=some e885.2:=by kernel_rfl
theorem r927:runP (envL Tryz.prog pol [(208,peekS [e109]),(52,peekS [e926]),(149,scalS (sizeV 40)),(173,scalS (size16V 40)),(58,outS faultSp),(182,outS isSp)]) 2000 52 e927.1.1 e927.1.2=some e927.2:=by kernel_rfl
theorem r930:runP (envL Tryz.prog pol [(149,scalS (sizeV 40)),(173,scalS (size16V 40)),(58,outS faultSp),(182,outS isSp)]) 2000 150 e930.1.1 e930.1.2=some e930.2:=by kernel_rfl
theorem r931:runP (envL Tryz.prog pol [(149,scalS (sizeV 40)),(173,scalS (size16V 40)),(58,outS faultSp),(182,outS isSp)]) 2000 150 e931.1.1 e931.1.2=some e931.2:=by kernel_rfl
theorem r948:runP (envL Tryz.prog pol [(149,scalS (sizeV 40)),(173,scalS (size16V 40)),(58,outS faultSp),(182,outS isSp)]) 2000 90 e948.1.1 e948.1.2=some e948.2:=by kernel_rfl
theorem r967:runP (envL Tryz.prog pol [(169,peekS [e966]),(149,scalS (sizeV 40)),(173,scalS (size16V 40)),(58,outS faultSp),(182,outS isSp)]) 2000 171 e967.1.1 e967.1.2=some e967.2:=by kernel_rfl
theorem r1031:runP (envL Tryz.prog pol [(149,scalS (sizeV 40)),(173,scalS (size16V 40)),(58,outS faultSp),(182,outS isSp)]) 2000 90 e1031.1.1 e1031.1.2=some e1031.2:=by kernel_rfl
theorem r1032:runP (envL Tryz.prog pol [(149,scalS (sizeV 40)),(173,scalS (size16V 40)),(58,outS faultSp),(182,outS isSp)]) 2000 90 e1032.1.1 e1032.1.2=some e1032.2:=by kernel_rfl
theorem r1040:runP (envL Tryz.prog pol [(149,scalS (sizeV 40)),(173,scalS (size16V 40)),(58,outS faultSp),(182,outS isSp)]) 2000 90 e1040.1.1 e1040.1.2=some e1040.2:=by kernel_rfl
theorem r1041:runP (envL Tryz.prog pol [(149,scalS (sizeV 40)),(173,scalS (size16V 40)),(58,outS faultSp),(182,outS isSp)]) 2000 90 e1041.1.1 e1041.1.2=some e1041.2:=by kernel_rfl
theorem r1053:runP (envL Tryz.prog pol [(149,scalS (sizeV 40)),(173,scalS (size16V 40)),(58,outS faultSp),(182,outS isSp)]) 2000 90 e1053.1.1 e1053.1.2=some e1053.2:=by kernel_rfl
theorem r1054:runP (envL Tryz.prog pol [(149,scalS (sizeV 40)),(173,scalS (size16V 40)),(58,outS faultSp),(182,outS isSp)]) 2000 90 e1054.1.1 e1054.1.2=some e1054.2:=by kernel_rfl
theorem r1070:runP (envL Tryz.prog pol [(149,scalS (sizeV 40)),(173,scalS (size16V 40)),(58,outS faultSp),(182,outS isSp)]) 2000 90 e1070.1.1 e1070.1.2=some e1070.2:=by kernel_rfl
theorem r1071:runP (envL Tryz.prog pol [(149,scalS (sizeV 40)),(173,scalS (size16V 40)),(58,outS faultSp),(182,outS isSp)]) 2000 90 e1071.1.1 e1071.1.2=some e1071.2:=by kernel_rfl
theorem r1091:runP (envL Tryz.prog pol [(149,scalS (sizeV 40)),(173,scalS (size16V 40)),(58,outS faultSp),(182,outS isSp)]) 2000 90 e1091.1.1 e1091.1.2=some e1091.2:=by kernel_rfl
theorem r1092:runP (envL Tryz.prog pol [(149,scalS (sizeV 40)),(173,scalS (size16V 40)),(58,outS faultSp),(182,outS isSp)]) 2000 90 e1092.1.1 e1092.1.2=some e1092.2:=by kernel_rfl
theorem r1116:runP (envL Tryz.prog pol [(149,scalS (sizeV 40)),(173,scalS (size16V 40)),(58,outS faultSp),(182,outS isSp)]) 2000 90 e1116.1.1 e1116.1.2=some e1116.2:=by kernel_rfl
theorem r1117:runP (envL Tryz.prog pol [(149,scalS (sizeV 40)),(173,scalS (size16V 40)),(58,outS faultSp),(182,outS isSp)]) 2000 90 e1117.1.1 e1117.1.2=some e1117.2:=by kernel_rfl
theorem r1141:runP (envL Tryz.prog pol [(149,scalS (sizeV 40)),(173,scalS (size16V 40)),(58,outS faultSp),(182,outS isSp)]) 2000 90 e1141.1.1 e1141.1.2=some e1141.2:=by kernel_rfl
theorem r1142:runP (envL Tryz.prog pol [(149,scalS (sizeV 40)),(173,scalS (size16V 40)),(58,outS faultSp),(182,outS isSp)]) 2000 90 e1142.1.1 e1142.1.2=some e1142.2:=by kernel_rfl
theorem r1166:runP (envL Tryz.prog pol [(149,scalS (sizeV 40)),(173,scalS (size16V 40)),(58,outS faultSp),(182,outS isSp)]) 2000 90 e1166.1.1 e1166.1.2=some e1166.2:=by kernel_rfl
theorem r1167:runP (envL Tryz.prog pol [(149,scalS (sizeV 40)),(173,scalS (size16V 40)),(58,outS faultSp),(182,outS isSp)]) 2000 90 e1167.1.1 e1167.1.2=some e1167.2:=by kernel_rfl
theorem r1191:runP (envL Tryz.prog pol [(149,scalS (sizeV 40)),(173,scalS (size16V 40)),(58,outS faultSp),(182,outS isSp)]) 2000 90 e1191.1.1 e1191.1.2=some e1191.2:=by kernel_rfl
theorem r1192:runP (envL Tryz.prog pol [(149,scalS (sizeV 40)),(173,scalS (size16V 40)),(58,outS faultSp),(182,outS isSp)]) 2000 90 e1192.1.1 e1192.1.2=some e1192.2:=by kernel_rfl
end Go.Proofs.YtjilhkjgejnmpaaGreatDoor
