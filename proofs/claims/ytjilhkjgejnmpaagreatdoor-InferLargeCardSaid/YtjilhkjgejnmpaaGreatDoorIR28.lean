import Derived.Test.YtjilhkjgejnmpaaGreatDoorIDb
set_option linter.all false
noncomputable section
/- Runs. -/
namespace Go.Proofs.YtjilhkjgejnmpaaGreatDoor
open Go.J
theorem r3:runP (envL Tryz.prog pol [(149,scalS (sizeV 40)),(173,scalS (size16V 40)),(58,outS faultSp),(182,outS isSp)]) 2000 106 e3.1.1 e3.1.2=some e3.2:=by kernel_rfl
theorem r4:runP (envL Tryz.prog pol [(149,scalS (sizeV 40)),(173,scalS (size16V 40)),(58,outS faultSp),(182,outS isSp)]) 2000 106 e4.1.1 e4.1.2=some e4.2:=by kernel_rfl
theorem r37:runP (envL Tryz.prog pol [(149,scalS (sizeV 40)),(173,scalS (size16V 40)),(58,outS faultSp),(182,outS isSp)]) 2000 106 e37.1.1 e37.1.2=some e37.2:=by kernel_rfl
theorem r67:runP (envL Tryz.prog pol [(149,scalS (sizeV 40)),(173,scalS (size16V 40)),(58,outS faultSp),(182,outS isSp)]) 2000 106 e67.1.1 e67.1.2=some e67.2:=by kernel_rfl
theorem r69:runP (envL Tryz.prog pol [(149,scalS (sizeV 40)),(173,scalS (size16V 40)),(58,outS faultSp),(182,outS isSp)]) 2000 106 e69.1.1 e69.1.2=some e69.2:=by kernel_rfl
theorem r73:runP (envL Tryz.prog pol [(149,scalS (sizeV 40)),(173,scalS (size16V 40)),(58,outS faultSp),(182,outS isSp)]) 2000 106 e73.1.1 e73.1.2=some e73.2:=by kernel_rfl
theorem r76:runP (envL Tryz.prog pol [(149,scalS (sizeV 40)),(173,scalS (size16V 40)),(58,outS faultSp),(182,outS isSp)]) 2000 106 e76.1.1 e76.1.2=some e76.2:=by kernel_rfl
theorem r78:runP (envL Tryz.prog pol [(149,scalS (sizeV 40)),(173,scalS (size16V 40)),(58,outS faultSp),(182,outS isSp)]) 2000 106 e78.1.1 e78.1.2=some e78.2:=by kernel_rfl
theorem r79:runP (envL Tryz.prog pol [(149,scalS (sizeV 40)),(173,scalS (size16V 40)),(58,outS faultSp),(182,outS isSp)]) 2000 106 e79.1.1 e79.1.2=some e79.2:=by kernel_rfl
theorem r85:runP (envL Tryz.prog pol [(149,scalS (sizeV 40)),(173,scalS (size16V 40)),(58,outS faultSp),(182,outS isSp)]) 2000 106 e85.1.1 e85.1.2=some e85.2:=by kernel_rfl
theorem r114:runP (envL Tryz.prog pol [(208,peekS [e109]),(52,peekS [e110,e113]),(149,scalS (sizeV 40)),(173,scalS (size16V 40)),(58,outS faultSp),(182,outS isSp)]) 2000 52 e114.1.1 e114.1.2=some e114.2:=by kernel_rfl
theorem r124:runP (envL Tryz.prog pol [(149,scalS (sizeV 40)),(173,scalS (size16V 40)),(58,outS faultSp),(182,outS isSp)]) 2000 153 e124.1.1 e124.1.2=some e124.2:=by kernel_rfl
theorem r125:runP (envL Tryz.prog pol [(149,scalS (sizeV 40)),(173,scalS (size16V 40)),(58,outS faultSp),(182,outS isSp)]) 2000 153 e125.1.1 e125.1.2=some e125.2:=by kernel_rfl
theorem r146:runP (envL Tryz.prog pol [(208,peekS [e109]),(52,peekS [e142,e145]),(149,scalS (sizeV 40)),(173,scalS (size16V 40)),(58,outS faultSp),(182,outS isSp)]) 2000 52 e146.1.1 e146.1.2=some e146.2:=by kernel_rfl
theorem r147:runP (envL Tryz.prog pol [(208,peekS [e109]),(52,peekS [e113,e146]),(149,scalS (sizeV 40)),(173,scalS (size16V 40)),(58,outS faultSp),(182,outS isSp)]) 2000 52 e147.1.1 e147.1.2=some e147.2:=by kernel_rfl
theorem r150:runP (envL Tryz.prog pol [(149,scalS (sizeV 40)),(173,scalS (size16V 40)),(58,outS faultSp),(182,outS isSp)]) 2000 64 e150.1.1 e150.1.2=some e150.2:=by kernel_rfl
theorem r178:runP (envL Tryz.prog pol [(208,peekS [e109]),(52,peekS [e174,e177]),(149,scalS (sizeV 40)),(173,scalS (size16V 40)),(58,outS faultSp),(182,outS isSp)]) 2000 52 e178.1.1 e178.1.2=some e178.2:=by kernel_rfl
theorem r179:runP (envL Tryz.prog pol [(208,peekS [e109]),(52,peekS [e145,e178]),(149,scalS (sizeV 40)),(173,scalS (size16V 40)),(58,outS faultSp),(182,outS isSp)]) 2000 52 e179.1.1 e179.1.2=some e179.2:=by kernel_rfl
theorem r180:runP (envL Tryz.prog pol [(208,peekS [e109]),(52,peekS [e113,e179]),(149,scalS (sizeV 40)),(173,scalS (size16V 40)),(58,outS faultSp),(182,outS isSp)]) 2000 52 e180.1.1 e180.1.2=some e180.2:=by kernel_rfl
theorem r189:runP (envL Tryz.prog pol [(149,scalS (sizeV 40)),(173,scalS (size16V 40)),(58,outS faultSp),(182,outS isSp)]) 2000 150 e189.1.1 e189.1.2=some e189.2:=by kernel_rfl
theorem r212:runP (envL Tryz.prog pol [(208,peekS [e109]),(52,peekS [e208,e211]),(149,scalS (sizeV 40)),(173,scalS (size16V 40)),(58,outS faultSp),(182,outS isSp)]) 2000 52 e212.1.1 e212.1.2=some e212.2:=by kernel_rfl
theorem r213:runP (envL Tryz.prog pol [(208,peekS [e109]),(52,peekS [e177,e212]),(149,scalS (sizeV 40)),(173,scalS (size16V 40)),(58,outS faultSp),(182,outS isSp)]) 2000 52 e213.1.1 e213.1.2=some e213.2:=by kernel_rfl
theorem r214:runP (envL Tryz.prog pol [(208,peekS [e109]),(52,peekS [e145,e213]),(149,scalS (sizeV 40)),(173,scalS (size16V 40)),(58,outS faultSp),(182,outS isSp)]) 2000 52 e214.1.1 e214.1.2=some e214.2:=by kernel_rfl
theorem r215:runP (envL Tryz.prog pol [(208,peekS [e109]),(52,peekS [e113,e214]),(149,scalS (sizeV 40)),(173,scalS (size16V 40)),(58,outS faultSp),(182,outS isSp)]) 2000 52 e215.1.1 e215.1.2=some e215.2:=by kernel_rfl
theorem r221:runP (envL Tryz.prog pol [(149,scalS (sizeV 40)),(173,scalS (size16V 40)),(58,outS faultSp),(182,outS isSp)]) 2000 150 e221.1.1 e221.1.2=some e221.2:=by kernel_rfl
theorem r248:runP (envL Tryz.prog pol [(208,peekS [e109]),(52,peekS [e244,e247]),(149,scalS (sizeV 40)),(173,scalS (size16V 40)),(58,outS faultSp),(182,outS isSp)]) 2000 52 e248.1.1 e248.1.2=some e248.2:=by kernel_rfl
theorem r249:runP (envL Tryz.prog pol [(208,peekS [e109]),(52,peekS [e211,e248]),(149,scalS (sizeV 40)),(173,scalS (size16V 40)),(58,outS faultSp),(182,outS isSp)]) 2000 52 e249.1.1 e249.1.2=some e249.2:=by kernel_rfl
theorem r250:runP (envL Tryz.prog pol [(208,peekS [e109]),(52,peekS [e177,e249]),(149,scalS (sizeV 40)),(173,scalS (size16V 40)),(58,outS faultSp),(182,outS isSp)]) 2000 52 e250.1.1 e250.1.2=some e250.2:=by kernel_rfl
theorem r251:runP (envL Tryz.prog pol [(208,peekS [e109]),(52,peekS [e145,e250]),(149,scalS (sizeV 40)),(173,scalS (size16V 40)),(58,outS faultSp),(182,outS isSp)]) 2000 52 e251.1.1 e251.1.2=some e251.2:=by kernel_rfl
theorem r252:runP (envL Tryz.prog pol [(208,peekS [e109]),(52,peekS [e113,e251]),(149,scalS (sizeV 40)),(173,scalS (size16V 40)),(58,outS faultSp),(182,outS isSp)]) 2000 52 e252.1.1 e252.1.2=some e252.2:=by kernel_rfl
theorem r254:runP (envL Tryz.prog pol [(149,scalS (sizeV 40)),(173,scalS (size16V 40)),(58,outS faultSp),(182,outS isSp)]) 2000 57 e254.1.1 e254.1.2=some e254.2:=by kernel_rfl
theorem r286:runP (envL Tryz.prog pol [(208,peekS [e109]),(52,peekS [e282,e285]),(149,scalS (sizeV 40)),(173,scalS (size16V 40)),(58,outS faultSp),(182,outS isSp)]) 2000 52 e286.1.1 e286.1.2=some e286.2:=by kernel_rfl
theorem r287:runP (envL Tryz.prog pol [(208,peekS [e109]),(52,peekS [e247,e286]),(149,scalS (sizeV 40)),(173,scalS (size16V 40)),(58,outS faultSp),(182,outS isSp)]) 2000 52 e287.1.1 e287.1.2=some e287.2:=by kernel_rfl
theorem r288:runP (envL Tryz.prog pol [(208,peekS [e109]),(52,peekS [e211,e287]),(149,scalS (sizeV 40)),(173,scalS (size16V 40)),(58,outS faultSp),(182,outS isSp)]) 2000 52 e288.1.1 e288.1.2=some e288.2:=by kernel_rfl
theorem r289:runP (envL Tryz.prog pol [(208,peekS [e109]),(52,peekS [e177,e288]),(149,scalS (sizeV 40)),(173,scalS (size16V 40)),(58,outS faultSp),(182,outS isSp)]) 2000 52 e289.1.1 e289.1.2=some e289.2:=by kernel_rfl
theorem r290:runP (envL Tryz.prog pol [(208,peekS [e109]),(52,peekS [e145,e289]),(149,scalS (sizeV 40)),(173,scalS (size16V 40)),(58,outS faultSp),(182,outS isSp)]) 2000 52 e290.1.1 e290.1.2=some e290.2:=by kernel_rfl
theorem r291:runP (envL Tryz.prog pol [(208,peekS [e109]),(52,peekS [e113,e290]),(149,scalS (sizeV 40)),(173,scalS (size16V 40)),(58,outS faultSp),(182,outS isSp)]) 2000 52 e291.1.1 e291.1.2=some e291.2:=by kernel_rfl
theorem r293:runP (envL Tryz.prog pol [(149,scalS (sizeV 40)),(173,scalS (size16V 40)),(58,outS faultSp),(182,outS isSp)]) 2000 57 e293.1.1 e293.1.2=some e293.2:=by kernel_rfl
theorem r326:runP (envL Tryz.prog pol [(208,peekS [e109]),(52,peekS [e322,e325]),(149,scalS (sizeV 40)),(173,scalS (size16V 40)),(58,outS faultSp),(182,outS isSp)]) 2000 52 e326.1.1 e326.1.2=some e326.2:=by kernel_rfl
theorem r327:runP (envL Tryz.prog pol [(208,peekS [e109]),(52,peekS [e285,e326]),(149,scalS (sizeV 40)),(173,scalS (size16V 40)),(58,outS faultSp),(182,outS isSp)]) 2000 52 e327.1.1 e327.1.2=some e327.2:=by kernel_rfl
theorem r328:runP (envL Tryz.prog pol [(208,peekS [e109]),(52,peekS [e247,e327]),(149,scalS (sizeV 40)),(173,scalS (size16V 40)),(58,outS faultSp),(182,outS isSp)]) 2000 52 e328.1.1 e328.1.2=some e328.2:=by kernel_rfl
theorem r329:runP (envL Tryz.prog pol [(208,peekS [e109]),(52,peekS [e211,e328]),(149,scalS (sizeV 40)),(173,scalS (size16V 40)),(58,outS faultSp),(182,outS isSp)]) 2000 52 e329.1.1 e329.1.2=some e329.2:=by kernel_rfl
theorem r330:runP (envL Tryz.prog pol [(208,peekS [e109]),(52,peekS [e177,e329]),(149,scalS (sizeV 40)),(173,scalS (size16V 40)),(58,outS faultSp),(182,outS isSp)]) 2000 52 e330.1.1 e330.1.2=some e330.2:=by kernel_rfl
theorem r331:runP (envL Tryz.prog pol [(208,peekS [e109]),(52,peekS [e145,e330]),(149,scalS (sizeV 40)),(173,scalS (size16V 40)),(58,outS faultSp),(182,outS isSp)]) 2000 52 e331.1.1 e331.1.2=some e331.2:=by kernel_rfl
theorem r332:runP (envL Tryz.prog pol [(208,peekS [e109]),(52,peekS [e113,e331]),(149,scalS (sizeV 40)),(173,scalS (size16V 40)),(58,outS faultSp),(182,outS isSp)]) 2000 52 e332.1.1 e332.1.2=some e332.2:=by kernel_rfl
theorem r355:runP (envL Tryz.prog pol [(208,peekS [e109]),(52,peekS [e351,e354]),(149,scalS (sizeV 40)),(173,scalS (size16V 40)),(58,outS faultSp),(182,outS isSp)]) 2000 52 e355.1.1 e355.1.2=some e355.2:=by kernel_rfl
theorem r356:runP (envL Tryz.prog pol [(208,peekS [e109]),(52,peekS [e325,e355]),(149,scalS (sizeV 40)),(173,scalS (size16V 40)),(58,outS faultSp),(182,outS isSp)]) 2000 52 e356.1.1 e356.1.2=some e356.2:=by kernel_rfl
theorem r357:runP (envL Tryz.prog pol [(208,peekS [e109]),(52,peekS [e285,e356]),(149,scalS (sizeV 40)),(173,scalS (size16V 40)),(58,outS faultSp),(182,outS isSp)]) 2000 52 e357.1.1 e357.1.2=some e357.2:=by kernel_rfl
theorem r358:runP (envL Tryz.prog pol [(208,peekS [e109]),(52,peekS [e247,e357]),(149,scalS (sizeV 40)),(173,scalS (size16V 40)),(58,outS faultSp),(182,outS isSp)]) 2000 52 e358.1.1 e358.1.2=some e358.2:=by kernel_rfl
theorem r359:runP (envL Tryz.prog pol [(208,peekS [e109]),(52,peekS [e211,e358]),(149,scalS (sizeV 40)),(173,scalS (size16V 40)),(58,outS faultSp),(182,outS isSp)]) 2000 52 e359.1.1 e359.1.2=some e359.2:=by kernel_rfl
theorem r360:runP (envL Tryz.prog pol [(208,peekS [e109]),(52,peekS [e177,e359]),(149,scalS (sizeV 40)),(173,scalS (size16V 40)),(58,outS faultSp),(182,outS isSp)]) 2000 52 e360.1.1 e360.1.2=some e360.2:=by kernel_rfl
theorem r361:runP (envL Tryz.prog pol [(208,peekS [e109]),(52,peekS [e145,e360]),(149,scalS (sizeV 40)),(173,scalS (size16V 40)),(58,outS faultSp),(182,outS isSp)]) 2000 52 e361.1.1 e361.1.2=some e361.2:=by kernel_rfl
theorem r362:runP (envL Tryz.prog pol [(208,peekS [e109]),(52,peekS [e113,e361]),(149,scalS (sizeV 40)),(173,scalS (size16V 40)),(58,outS faultSp),(182,outS isSp)]) 2000 52 e362.1.1 e362.1.2=some e362.2:=by kernel_rfl
theorem r383:runP (envL Tryz.prog pol [(208,peekS [e109]),(52,peekS [e379,e382]),(149,scalS (sizeV 40)),(173,scalS (size16V 40)),(58,outS faultSp),(182,outS isSp)]) 2000 52 e383.1.1 e383.1.2=some e383.2:=by kernel_rfl
theorem r384:runP (envL Tryz.prog pol [(208,peekS [e109]),(52,peekS [e354,e383]),(149,scalS (sizeV 40)),(173,scalS (size16V 40)),(58,outS faultSp),(182,outS isSp)]) 2000 52 e384.1.1 e384.1.2=some e384.2:=by kernel_rfl
theorem r385:runP (envL Tryz.prog pol [(208,peekS [e109]),(52,peekS [e325,e384]),(149,scalS (sizeV 40)),(173,scalS (size16V 40)),(58,outS faultSp),(182,outS isSp)]) 2000 52 e385.1.1 e385.1.2=some e385.2:=by kernel_rfl
theorem r386:runP (envL Tryz.prog pol [(208,peekS [e109]),(52,peekS [e285,e385]),(149,scalS (sizeV 40)),(173,scalS (size16V 40)),(58,outS faultSp),(182,outS isSp)]) 2000 52 e386.1.1 e386.1.2=some e386.2:=by kernel_rfl
theorem r387:runP (envL Tryz.prog pol [(208,peekS [e109]),(52,peekS [e247,e386]),(149,scalS (sizeV 40)),(173,scalS (size16V 40)),(58,outS faultSp),(182,outS isSp)]) 2000 52 e387.1.1 e387.1.2=some e387.2:=by kernel_rfl
theorem r388:runP (envL Tryz.prog pol [(208,peekS [e109]),(52,peekS [e211,e387]),(149,scalS (sizeV 40)),(173,scalS (size16V 40)),(58,outS faultSp),(182,outS isSp)]) 2000 52 e388.1.1 e388.1.2=some e388.2:=by kernel_rfl
theorem r389:runP (envL Tryz.prog pol [(208,peekS [e109]),(52,peekS [e177,e388]),(149,scalS (sizeV 40)),(173,scalS (size16V 40)),(58,outS faultSp),(182,outS isSp)]) 2000 52 e389.1.1 e389.1.2=some e389.2:=by kernel_rfl
theorem r390:runP (envL Tryz.prog pol [(208,peekS [e109]),(52,peekS [e145,e389]),(149,scalS (sizeV 40)),(173,scalS (size16V 40)),(58,outS faultSp),(182,outS isSp)]) 2000 52 e390.1.1 e390.1.2=some e390.2:=by kernel_rfl
theorem r391:runP (envL Tryz.prog pol [(208,peekS [e109]),(52,peekS [e113,e390]),(149,scalS (sizeV 40)),(173,scalS (size16V 40)),(58,outS faultSp),(182,outS isSp)]) 2000 52 e391.1.1 e391.1.2=some e391.2:=by kernel_rfl
theorem r413:runP (envL Tryz.prog pol [(208,peekS [e109]),(52,peekS [e409,e412]),(149,scalS (sizeV 40)),(173,scalS (size16V 40)),(58,outS faultSp),(182,outS isSp)]) 2000 52 e413.1.1 e413.1.2=some e413.2:=by kernel_rfl
theorem r414:runP (envL Tryz.prog pol [(208,peekS [e109]),(52,peekS [e382,e413]),(149,scalS (sizeV 40)),(173,scalS (size16V 40)),(58,outS faultSp),(182,outS isSp)]) 2000 52 e414.1.1 e414.1.2=some e414.2:=by kernel_rfl
theorem r415:runP (envL Tryz.prog pol [(208,peekS [e109]),(52,peekS [e354,e414]),(149,scalS (sizeV 40)),(173,scalS (size16V 40)),(58,outS faultSp),(182,outS isSp)]) 2000 52 e415.1.1 e415.1.2=some e415.2:=by kernel_rfl
theorem r557:runP (envL Tryz.prog pol [(149,scalS (sizeV 40)),(173,scalS (size16V 40)),(58,outS faultSp),(182,outS isSp)]) 2000 150 e557.1.1 e557.1.2=some e557.2:=by kernel_rfl
theorem r577:runP (envL Tryz.prog pol [(149,scalS (sizeV 40)),(173,scalS (size16V 40)),(58,outS faultSp),(182,outS isSp)]) 2000 150 e577.1.1 e577.1.2=some e577.2:=by kernel_rfl
theorem r599:runP (envL Tryz.prog pol [(149,scalS (sizeV 40)),(173,scalS (size16V 40)),(58,outS faultSp),(182,outS isSp)]) 2000 150 e599.1.1 e599.1.2=some e599.2:=by kernel_rfl
theorem r600:runP (envL Tryz.prog pol [(149,scalS (sizeV 40)),(173,scalS (size16V 40)),(58,outS faultSp),(182,outS isSp)]) 2000 150 e600.1.1 e600.1.2=some e600.2:=by kernel_rfl
theorem r622:runP (envL Tryz.prog pol [(149,scalS (sizeV 40)),(173,scalS (size16V 40)),(58,outS faultSp),(182,outS isSp)]) 2000 150 e622.1.1 e622.1.2=some e622.2:=by kernel_rfl
theorem r631:runP (envL Tryz.prog pol [(149,scalS (sizeV 40)),(173,scalS (size16V 40)),(58,outS faultSp),(182,outS isSp)]) 2000 150 e631.1.1 e631.1.2=some e631.2:=by kernel_rfl
theorem r653:runP (envL Tryz.prog pol [(149,scalS (sizeV 40)),(173,scalS (size16V 40)),(58,outS faultSp),(182,outS isSp)]) 2000 150 e653.1.1 e653.1.2=some e653.2:=by kernel_rfl
theorem r654:runP (envL Tryz.prog pol [(149,scalS (sizeV 40)),(173,scalS (size16V 40)),(58,outS faultSp),(182,outS isSp)]) 2000 150 e654.1.1 e654.1.2=some e654.2:=by kernel_rfl
theorem r689:runP (envL Tryz.prog pol [(149,scalS (sizeV 40)),(173,scalS (size16V 40)),(58,outS faultSp),(182,outS isSp)]) 2000 150 e689.1.1 e689.1.2=some e689.2:=by kernel_rfl
theorem r690:runP (envL Tryz.prog pol [(149,scalS (sizeV 40)),(173,scalS (size16V 40)),(58,outS faultSp),(182,outS isSp)]) 2000 150 e690.1.1 e690.1.2=some e690.2:=by kernel_rfl
theorem r725:runP (envL Tryz.prog pol [(149,scalS (sizeV 40)),(173,scalS (size16V 40)),(58,outS faultSp),(182,outS isSp)]) 2000 150 e725.1.1 e725.1.2=some e725.2:=by kernel_rfl
theorem r726:runP (envL Tryz.prog pol [(149,scalS (sizeV 40)),(173,scalS (size16V 40)),(58,outS faultSp),(182,outS isSp)]) 2000 150 e726.1.1 e726.1.2=some e726.2:=by kernel_rfl
theorem r763:runP (envL Tryz.prog pol [(149,scalS (sizeV 40)),(173,scalS (size16V 40)),(58,outS faultSp),(182,outS isSp)]) 2000 150 e763.1.1 e763.1.2=some e763.2:=by kernel_rfl
theorem r764:runP (envL Tryz.prog pol [(149,scalS (sizeV 40)),(173,scalS (size16V 40)),(58,outS faultSp),(182,outS isSp)]) 2000 150 e764.1.1 e764.1.2=some e764.2:=by kernel_rfl
theorem r802:runP (envL Tryz.prog pol [(149,scalS (sizeV 40)),(173,scalS (size16V 40)),(58,outS faultSp),(182,outS isSp)]) 2000 150 e802.1.1 e802.1.2=some e802.2:=by kernel_rfl
theorem r803:runP (envL Tryz.prog pol [(149,scalS (sizeV 40)),(173,scalS (size16V 40)),(58,outS faultSp),(182,outS isSp)]) 2000 150 e803.1.1 e803.1.2=some e803.2:=by kernel_rfl
theorem r844:runP (envL Tryz.prog pol [(149,scalS (sizeV 40)),(173,scalS (size16V 40)),(58,outS faultSp),(182,outS isSp)]) 2000 150 e844.1.1 e844.1.2=some e844.2:=by kernel_rfl
theorem r845:runP (envL Tryz.prog pol [(149,scalS (sizeV 40)),(173,scalS (size16V 40)),(58,outS faultSp),(182,outS isSp)]) 2000 150 e845.1.1 e845.1.2=some e845.2:=by kernel_rfl
theorem r886:runP (envL Tryz.prog pol [(149,scalS (sizeV 40)),(173,scalS (size16V 40)),(58,outS faultSp),(182,outS isSp)]) 2000 150 e886.1.1 e886.1.2=some e886.2:=by kernel_rfl
theorem r887:runP (envL Tryz.prog pol [(149,scalS (sizeV 40)),(173,scalS (size16V 40)),(58,outS faultSp),(182,outS isSp)]) 2000 150 e887.1.1 e887.1.2=some e887.2:=by kernel_rfl
theorem r932:runP (envL Tryz.prog pol [(149,scalS (sizeV 40)),(173,scalS (size16V 40)),(58,outS faultSp),(182,outS isSp)]) 2000 150 e932.1.1 e932.1.2=some e932.2:=by kernel_rfl
theorem r933:runP (envL Tryz.prog pol [(149,scalS (sizeV 40)),(173,scalS (size16V 40)),(58,outS faultSp),(182,outS isSp)]) 2000 150 e933.1.1 e933.1.2=some e933.2:=by kernel_rfl
theorem r949:runP (envL Tryz.prog pol [(149,scalS (sizeV 40)),(173,scalS (size16V 40)),(58,outS faultSp),(182,outS isSp)]) 2000 90 e949.1.1 e949.1.2=some e949.2:=by kernel_rfl
theorem r951:runP (envL Tryz.prog pol [(149,scalS (sizeV 40)),(173,scalS (size16V 40)),(58,outS faultSp),(182,outS isSp)]) 2000 91 e951.1.1 e951.1.2=some e951.2:=by kernel_rfl
theorem r952:runP (envL Tryz.prog pol [(149,scalS (sizeV 40)),(173,scalS (size16V 40)),(58,outS faultSp),(182,outS isSp)]) 2000 91 e952.1.1 e952.1.2=some e952.2:=by kernel_rfl
theorem r953:runP (envL Tryz.prog pol [(149,scalS (sizeV 40)),(173,scalS (size16V 40)),(58,outS faultSp),(182,outS isSp)]) 2000 91 e953.1.1 e953.1.2=some e953.2:=by kernel_rfl
theorem r959:runP (envL Tryz.prog pol [(149,scalS (sizeV 40)),(173,scalS (size16V 40)),(58,outS faultSp),(182,outS isSp)]) 2000 90 e959.1.1 e959.1.2=some e959.2:=by kernel_rfl
theorem r961:runP (envL Tryz.prog pol [(149,scalS (sizeV 40)),(173,scalS (size16V 40)),(58,outS faultSp),(182,outS isSp)]) 2000 90 e961.1.1 e961.1.2=some e961.2:=by kernel_rfl
theorem r970:runP (envL Tryz.prog pol [(149,scalS (sizeV 40)),(173,scalS (size16V 40)),(58,outS faultSp),(182,outS isSp)]) 2000 90 e970.1.1 e970.1.2=some e970.2:=by kernel_rfl
theorem r1035:runP (envL Tryz.prog pol [(149,scalS (sizeV 40)),(173,scalS (size16V 40)),(58,outS faultSp),(182,outS isSp)]) 2000 91 e1035.1.1 e1035.1.2=some e1035.2:=by kernel_rfl
theorem r1036:runP (envL Tryz.prog pol [(149,scalS (sizeV 40)),(173,scalS (size16V 40)),(58,outS faultSp),(182,outS isSp)]) 2000 91 e1036.1.1 e1036.1.2=some e1036.2:=by kernel_rfl
theorem r1046:runP (envL Tryz.prog pol [(149,scalS (sizeV 40)),(173,scalS (size16V 40)),(58,outS faultSp),(182,outS isSp)]) 2000 91 e1046.1.1 e1046.1.2=some e1046.2:=by kernel_rfl
theorem r1047:runP (envL Tryz.prog pol [(149,scalS (sizeV 40)),(173,scalS (size16V 40)),(58,outS faultSp),(182,outS isSp)]) 2000 91 e1047.1.1 e1047.1.2=some e1047.2:=by kernel_rfl
theorem r1061:runP (envL Tryz.prog pol [(149,scalS (sizeV 40)),(173,scalS (size16V 40)),(58,outS faultSp),(182,outS isSp)]) 2000 91 e1061.1.1 e1061.1.2=some e1061.2:=by kernel_rfl
theorem r1062:runP (envL Tryz.prog pol [(149,scalS (sizeV 40)),(173,scalS (size16V 40)),(58,outS faultSp),(182,outS isSp)]) 2000 91 e1062.1.1 e1062.1.2=some e1062.2:=by kernel_rfl
theorem r1080:runP (envL Tryz.prog pol [(149,scalS (sizeV 40)),(173,scalS (size16V 40)),(58,outS faultSp),(182,outS isSp)]) 2000 91 e1080.1.1 e1080.1.2=some e1080.2:=by kernel_rfl
theorem r1081:runP (envL Tryz.prog pol [(149,scalS (sizeV 40)),(173,scalS (size16V 40)),(58,outS faultSp),(182,outS isSp)]) 2000 91 e1081.1.1 e1081.1.2=some e1081.2:=by kernel_rfl
theorem r1103:runP (envL Tryz.prog pol [(149,scalS (sizeV 40)),(173,scalS (size16V 40)),(58,outS faultSp),(182,outS isSp)]) 2000 91 e1103.1.1 e1103.1.2=some e1103.2:=by kernel_rfl
theorem r1104:runP (envL Tryz.prog pol [(149,scalS (sizeV 40)),(173,scalS (size16V 40)),(58,outS faultSp),(182,outS isSp)]) 2000 91 e1104.1.1 e1104.1.2=some e1104.2:=by kernel_rfl
theorem r1128:runP (envL Tryz.prog pol [(149,scalS (sizeV 40)),(173,scalS (size16V 40)),(58,outS faultSp),(182,outS isSp)]) 2000 91 e1128.1.1 e1128.1.2=some e1128.2:=by kernel_rfl
theorem r1129:runP (envL Tryz.prog pol [(149,scalS (sizeV 40)),(173,scalS (size16V 40)),(58,outS faultSp),(182,outS isSp)]) 2000 91 e1129.1.1 e1129.1.2=some e1129.2:=by kernel_rfl
theorem r1153:runP (envL Tryz.prog pol [(149,scalS (sizeV 40)),(173,scalS (size16V 40)),(58,outS faultSp),(182,outS isSp)]) 2000 91 e1153.1.1 e1153.1.2=some e1153.2:=by kernel_rfl
theorem r1154:runP (envL Tryz.prog pol [(149,scalS (sizeV 40)),(173,scalS (size16V 40)),(58,outS faultSp),(182,outS isSp)]) 2000 91 e1154.1.1 e1154.1.2=some e1154.2:=by kernel_rfl
theorem r1178:runP (envL Tryz.prog pol [(149,scalS (sizeV 40)),(173,scalS (size16V 40)),(58,outS faultSp),(182,outS isSp)]) 2000 91 e1178.1.1 e1178.1.2=some e1178.2:=by kernel_rfl
theorem r1179:runP (envL Tryz.prog pol [(149,scalS (sizeV 40)),(173,scalS (size16V 40)),(58,outS faultSp),(182,outS isSp)]) 2000 91 e1179.1.1 e1179.1.2=some e1179.2:=by kernel_rfl
theorem r1203:runP (envL Tryz.prog pol [(149,scalS (sizeV 40)),(173,scalS (size16V 40)),(58,outS faultSp),(182,outS isSp)]) 2000 91 e1203.1.1 e1203.1.2=some e1203.2:=by kernel_rfl
theorem r1204:runP (envL Tryz.prog pol [(149,scalS (sizeV 40)),(173,scalS (size16V 40)),(58,outS faultSp),(182,outS isSp)]) 2000 91 e1204.1.1 e1204.1.2=some e1204.2:=by kernel_rfl
theorem r1228:runP (envL Tryz.prog pol [(149,scalS (sizeV 40)),(173,scalS (size16V 40)),(58,outS faultSp),(182,outS isSp)]) 2000 91 e1228.1.1 e1228.1.2=some e1228.2:=by kernel_rfl
theorem r1229:runP (envL Tryz.prog pol [(149,scalS (sizeV 40)),(173,scalS (size16V 40)),(58,outS faultSp),(182,outS isSp)]) 2000 91 e1229.1.1 e1229.1.2=some e1229.2:=by kernel_rfl
theorem r1253:runP (envL Tryz.prog pol [(149,scalS (sizeV 40)),(173,scalS (size16V 40)),(58,outS faultSp),(182,outS isSp)]) 2000 91 e1253.1.1 e1253.1.2=some e1253.2:=by kernel_rfl
theorem r1254:runP (envL Tryz.prog pol [(149,scalS (sizeV 40)),(173,scalS (size16V 40)),(58,outS faultSp),(182,outS isSp)]) 2000 91 e1254.1.1 e1254.1.2=some e1254.2:=by kernel_rfl
theorem r1268:runP (envL Tryz.prog pol [(149,scalS (sizeV 40)),(173,scalS (size16V 40)),(58,outS faultSp),(182,outS isSp)]) 2000 90 e1268.1.1 e1268.1.2=some e1268.2:=by kernel_rfl
theorem r1269:runP (envL Tryz.prog pol [(149,scalS (sizeV 40)),(173,scalS (size16V 40)),(58,outS faultSp),(182,outS isSp)]) 2000 90 e1269.1.1 e1269.1.2=some e1269.2:=by kernel_rfl
theorem r1278:runP (envL Tryz.prog pol [(149,scalS (sizeV 40)),(173,scalS (size16V 40)),(58,outS faultSp),(182,outS isSp)]) 2000 91 e1278.1.1 e1278.1.2=some e1278.2:=by kernel_rfl
theorem r1279:runP (envL Tryz.prog pol [(149,scalS (sizeV 40)),(173,scalS (size16V 40)),(58,outS faultSp),(182,outS isSp)]) 2000 91 e1279.1.1 e1279.1.2=some e1279.2:=by kernel_rfl
end Go.Proofs.YtjilhkjgejnmpaaGreatDoor
