import Derived.Test.YtjilhkjgejnmpaaGreatDoorIDb
set_option linter.all false
noncomputable section
/- Runs. -/
namespace Go.Proofs.YtjilhkjgejnmpaaGreatDoor
open Go.J
theorem r99:runP (envL Tryz.prog pol [(149,scalS (sizeV 40)),(173,scalS (size16V 40)),(58,outS faultSp),(182,outS isSp)]) 2000 153 e99.1.1 e99.1.2=some e99.2:=by kernel_rfl
theorem r109:runP (envL Tryz.prog pol [(149,scalS (sizeV 40)),(173,scalS (size16V 40)),(58,outS faultSp),(182,outS isSp)]) 2000 208 e109.1.1 e109.1.2=some e109.2:=by kernel_rfl
theorem r110:runP (envL Tryz.prog pol [(208,peekS [e109]),(149,scalS (sizeV 40)),(173,scalS (size16V 40)),(58,outS faultSp),(182,outS isSp)]) 2000 52 e110.1.1 e110.1.2=some e110.2:=by kernel_rfl
theorem r111:runP (envL Tryz.prog pol [(208,peekS [e109]),(149,scalS (sizeV 40)),(173,scalS (size16V 40)),(58,outS faultSp),(182,outS isSp)]) 2000 52 e111.1.1 e111.1.2=some e111.2:=by kernel_rfl
theorem r112:runP (envL Tryz.prog pol [(208,peekS [e109]),(149,scalS (sizeV 40)),(173,scalS (size16V 40)),(58,outS faultSp),(182,outS isSp)]) 2000 52 e112.1.1 e112.1.2=some e112.2:=by kernel_rfl
theorem r113:runP (envL Tryz.prog pol [(208,peekS [e109]),(52,peekS [e111,e112]),(149,scalS (sizeV 40)),(173,scalS (size16V 40)),(58,outS faultSp),(182,outS isSp)]) 2000 52 e113.1.1 e113.1.2=some e113.2:=by kernel_rfl
theorem r117:runP (envL Tryz.prog pol [(149,scalS (sizeV 40)),(173,scalS (size16V 40)),(58,outS faultSp),(182,outS isSp)]) 2000 64 e117.1.1 e117.1.2=some e117.2:=by kernel_rfl
theorem r120:runP (envL Tryz.prog pol [(149,scalS (sizeV 40)),(173,scalS (size16V 40)),(58,outS faultSp),(182,outS isSp)]) 2000 150 e120.1.1 e120.1.2=some e120.2:=by kernel_rfl
theorem r122:runP (envL Tryz.prog pol [(149,scalS (sizeV 40)),(173,scalS (size16V 40)),(58,outS faultSp),(182,outS isSp)]) 2000 150 e122.1.1 e122.1.2=some e122.2:=by kernel_rfl
theorem r133:runP (envL Tryz.prog pol [(149,scalS (sizeV 40)),(173,scalS (size16V 40)),(58,outS faultSp),(182,outS isSp)]) 2000 213 e133.1.1 e133.1.2=some e133.2:=by kernel_rfl
theorem r142:runP (envL Tryz.prog pol [(208,peekS [e109]),(149,scalS (sizeV 40)),(173,scalS (size16V 40)),(58,outS faultSp),(182,outS isSp)]) 2000 52 e142.1.1 e142.1.2=some e142.2:=by kernel_rfl
theorem r143:runP (envL Tryz.prog pol [(208,peekS [e109]),(149,scalS (sizeV 40)),(173,scalS (size16V 40)),(58,outS faultSp),(182,outS isSp)]) 2000 52 e143.1.1 e143.1.2=some e143.2:=by kernel_rfl
theorem r144:runP (envL Tryz.prog pol [(208,peekS [e109]),(149,scalS (sizeV 40)),(173,scalS (size16V 40)),(58,outS faultSp),(182,outS isSp)]) 2000 52 e144.1.1 e144.1.2=some e144.2:=by kernel_rfl
theorem r145:runP (envL Tryz.prog pol [(208,peekS [e109]),(52,peekS [e143,e144]),(149,scalS (sizeV 40)),(173,scalS (size16V 40)),(58,outS faultSp),(182,outS isSp)]) 2000 52 e145.1.1 e145.1.2=some e145.2:=by kernel_rfl
theorem r154:runP (envL Tryz.prog pol [(149,scalS (sizeV 40)),(173,scalS (size16V 40)),(58,outS faultSp),(182,outS isSp)]) 2000 150 e154.1.1 e154.1.2=some e154.2:=by kernel_rfl
theorem r155:runP (envL Tryz.prog pol [(149,scalS (sizeV 40)),(173,scalS (size16V 40)),(58,outS faultSp),(182,outS isSp)]) 2000 150 e155.1.1 e155.1.2=some e155.2:=by kernel_rfl
theorem r157:runP (envL Tryz.prog pol [(149,scalS (sizeV 40)),(173,scalS (size16V 40)),(58,outS faultSp),(182,outS isSp)]) 2000 150 e157.1.1 e157.1.2=some e157.2:=by kernel_rfl
theorem r164:runP (envL Tryz.prog pol [(149,scalS (sizeV 40)),(173,scalS (size16V 40)),(58,outS faultSp),(182,outS isSp)]) 2000 213 e164.1.1 e164.1.2=some e164.2:=by kernel_rfl
theorem r174:runP (envL Tryz.prog pol [(208,peekS [e109]),(149,scalS (sizeV 40)),(173,scalS (size16V 40)),(58,outS faultSp),(182,outS isSp)]) 2000 52 e174.1.1 e174.1.2=some e174.2:=by kernel_rfl
theorem r175:runP (envL Tryz.prog pol [(208,peekS [e109]),(149,scalS (sizeV 40)),(173,scalS (size16V 40)),(58,outS faultSp),(182,outS isSp)]) 2000 52 e175.1.1 e175.1.2=some e175.2:=by kernel_rfl
theorem r176:runP (envL Tryz.prog pol [(208,peekS [e109]),(149,scalS (sizeV 40)),(173,scalS (size16V 40)),(58,outS faultSp),(182,outS isSp)]) 2000 52 e176.1.1 e176.1.2=some e176.2:=by kernel_rfl
theorem r177:runP (envL Tryz.prog pol [(208,peekS [e109]),(52,peekS [e175,e176]),(149,scalS (sizeV 40)),(173,scalS (size16V 40)),(58,outS faultSp),(182,outS isSp)]) 2000 52 e177.1.1 e177.1.2=some e177.2:=by kernel_rfl
theorem r182:runP (envL Tryz.prog pol [(149,scalS (sizeV 40)),(173,scalS (size16V 40)),(58,outS faultSp),(182,outS isSp)]) 2000 57 e182.1.1 e182.1.2=some e182.2:=by kernel_rfl
theorem r186:runP (envL Tryz.prog pol [(149,scalS (sizeV 40)),(173,scalS (size16V 40)),(58,outS faultSp),(182,outS isSp)]) 2000 150 e186.1.1 e186.1.2=some e186.2:=by kernel_rfl
theorem r197:runP (envL Tryz.prog pol [(149,scalS (sizeV 40)),(173,scalS (size16V 40)),(58,outS faultSp),(182,outS isSp)]) 2000 213 e197.1.1 e197.1.2=some e197.2:=by kernel_rfl
theorem r208:runP (envL Tryz.prog pol [(208,peekS [e109]),(149,scalS (sizeV 40)),(173,scalS (size16V 40)),(58,outS faultSp),(182,outS isSp)]) 2000 52 e208.1.1 e208.1.2=some e208.2:=by kernel_rfl
theorem r209:runP (envL Tryz.prog pol [(208,peekS [e109]),(149,scalS (sizeV 40)),(173,scalS (size16V 40)),(58,outS faultSp),(182,outS isSp)]) 2000 52 e209.1.1 e209.1.2=some e209.2:=by kernel_rfl
theorem r210:runP (envL Tryz.prog pol [(208,peekS [e109]),(149,scalS (sizeV 40)),(173,scalS (size16V 40)),(58,outS faultSp),(182,outS isSp)]) 2000 52 e210.1.1 e210.1.2=some e210.2:=by kernel_rfl
theorem r211:runP (envL Tryz.prog pol [(208,peekS [e109]),(52,peekS [e209,e210]),(149,scalS (sizeV 40)),(173,scalS (size16V 40)),(58,outS faultSp),(182,outS isSp)]) 2000 52 e211.1.1 e211.1.2=some e211.2:=by kernel_rfl
theorem r232:runP (envL Tryz.prog pol [(149,scalS (sizeV 40)),(173,scalS (size16V 40)),(58,outS faultSp),(182,outS isSp)]) 2000 213 e232.1.1 e232.1.2=some e232.2:=by kernel_rfl
theorem r244:runP (envL Tryz.prog pol [(208,peekS [e109]),(149,scalS (sizeV 40)),(173,scalS (size16V 40)),(58,outS faultSp),(182,outS isSp)]) 2000 52 e244.1.1 e244.1.2=some e244.2:=by kernel_rfl
theorem r245:runP (envL Tryz.prog pol [(208,peekS [e109]),(149,scalS (sizeV 40)),(173,scalS (size16V 40)),(58,outS faultSp),(182,outS isSp)]) 2000 52 e245.1.1 e245.1.2=some e245.2:=by kernel_rfl
theorem r246:runP (envL Tryz.prog pol [(208,peekS [e109]),(149,scalS (sizeV 40)),(173,scalS (size16V 40)),(58,outS faultSp),(182,outS isSp)]) 2000 52 e246.1.1 e246.1.2=some e246.2:=by kernel_rfl
theorem r247:runP (envL Tryz.prog pol [(208,peekS [e109]),(52,peekS [e245,e246]),(149,scalS (sizeV 40)),(173,scalS (size16V 40)),(58,outS faultSp),(182,outS isSp)]) 2000 52 e247.1.1 e247.1.2=some e247.2:=by kernel_rfl
theorem r269:runP (envL Tryz.prog pol [(149,scalS (sizeV 40)),(173,scalS (size16V 40)),(58,outS faultSp),(182,outS isSp)]) 2000 213 e269.1.1 e269.1.2=some e269.2:=by kernel_rfl
theorem r282:runP (envL Tryz.prog pol [(208,peekS [e109]),(149,scalS (sizeV 40)),(173,scalS (size16V 40)),(58,outS faultSp),(182,outS isSp)]) 2000 52 e282.1.1 e282.1.2=some e282.2:=by kernel_rfl
theorem r283:runP (envL Tryz.prog pol [(208,peekS [e109]),(149,scalS (sizeV 40)),(173,scalS (size16V 40)),(58,outS faultSp),(182,outS isSp)]) 2000 52 e283.1.1 e283.1.2=some e283.2:=by kernel_rfl
theorem r284:runP (envL Tryz.prog pol [(208,peekS [e109]),(149,scalS (sizeV 40)),(173,scalS (size16V 40)),(58,outS faultSp),(182,outS isSp)]) 2000 52 e284.1.1 e284.1.2=some e284.2:=by kernel_rfl
theorem r285:runP (envL Tryz.prog pol [(208,peekS [e109]),(52,peekS [e283,e284]),(149,scalS (sizeV 40)),(173,scalS (size16V 40)),(58,outS faultSp),(182,outS isSp)]) 2000 52 e285.1.1 e285.1.2=some e285.2:=by kernel_rfl
theorem r308:runP (envL Tryz.prog pol [(149,scalS (sizeV 40)),(173,scalS (size16V 40)),(58,outS faultSp),(182,outS isSp)]) 2000 213 e308.1.1 e308.1.2=some e308.2:=by kernel_rfl
theorem r322:runP (envL Tryz.prog pol [(208,peekS [e109]),(149,scalS (sizeV 40)),(173,scalS (size16V 40)),(58,outS faultSp),(182,outS isSp)]) 2000 52 e322.1.1 e322.1.2=some e322.2:=by kernel_rfl
theorem r323:runP (envL Tryz.prog pol [(208,peekS [e109]),(149,scalS (sizeV 40)),(173,scalS (size16V 40)),(58,outS faultSp),(182,outS isSp)]) 2000 52 e323.1.1 e323.1.2=some e323.2:=by kernel_rfl
theorem r324:runP (envL Tryz.prog pol [(208,peekS [e109]),(149,scalS (sizeV 40)),(173,scalS (size16V 40)),(58,outS faultSp),(182,outS isSp)]) 2000 52 e324.1.1 e324.1.2=some e324.2:=by kernel_rfl
theorem r325:runP (envL Tryz.prog pol [(208,peekS [e109]),(52,peekS [e323,e324]),(149,scalS (sizeV 40)),(173,scalS (size16V 40)),(58,outS faultSp),(182,outS isSp)]) 2000 52 e325.1.1 e325.1.2=some e325.2:=by kernel_rfl
theorem r336:runP (envL Tryz.prog pol [(149,scalS (sizeV 40)),(173,scalS (size16V 40)),(58,outS faultSp),(182,outS isSp)]) 2000 213 e336.1.1 e336.1.2=some e336.2:=by kernel_rfl
theorem r351:runP (envL Tryz.prog pol [(208,peekS [e109]),(149,scalS (sizeV 40)),(173,scalS (size16V 40)),(58,outS faultSp),(182,outS isSp)]) 2000 52 e351.1.1 e351.1.2=some e351.2:=by kernel_rfl
theorem r352:runP (envL Tryz.prog pol [(208,peekS [e109]),(149,scalS (sizeV 40)),(173,scalS (size16V 40)),(58,outS faultSp),(182,outS isSp)]) 2000 52 e352.1.1 e352.1.2=some e352.2:=by kernel_rfl
theorem r353:runP (envL Tryz.prog pol [(208,peekS [e109]),(149,scalS (sizeV 40)),(173,scalS (size16V 40)),(58,outS faultSp),(182,outS isSp)]) 2000 52 e353.1.1 e353.1.2=some e353.2:=by kernel_rfl
theorem r354:runP (envL Tryz.prog pol [(208,peekS [e109]),(52,peekS [e352,e353]),(149,scalS (sizeV 40)),(173,scalS (size16V 40)),(58,outS faultSp),(182,outS isSp)]) 2000 52 e354.1.1 e354.1.2=some e354.2:=by kernel_rfl
theorem r379:runP (envL Tryz.prog pol [(208,peekS [e109]),(149,scalS (sizeV 40)),(173,scalS (size16V 40)),(58,outS faultSp),(182,outS isSp)]) 2000 52 e379.1.1 e379.1.2=some e379.2:=by kernel_rfl
theorem r380:runP (envL Tryz.prog pol [(208,peekS [e109]),(149,scalS (sizeV 40)),(173,scalS (size16V 40)),(58,outS faultSp),(182,outS isSp)]) 2000 52 e380.1.1 e380.1.2=some e380.2:=by kernel_rfl
theorem r381:runP (envL Tryz.prog pol [(208,peekS [e109]),(149,scalS (sizeV 40)),(173,scalS (size16V 40)),(58,outS faultSp),(182,outS isSp)]) 2000 52 e381.1.1 e381.1.2=some e381.2:=by kernel_rfl
theorem r382:runP (envL Tryz.prog pol [(208,peekS [e109]),(52,peekS [e380,e381]),(149,scalS (sizeV 40)),(173,scalS (size16V 40)),(58,outS faultSp),(182,outS isSp)]) 2000 52 e382.1.1 e382.1.2=some e382.2:=by kernel_rfl
theorem r409:runP (envL Tryz.prog pol [(208,peekS [e109]),(149,scalS (sizeV 40)),(173,scalS (size16V 40)),(58,outS faultSp),(182,outS isSp)]) 2000 52 e409.1.1 e409.1.2=some e409.2:=by kernel_rfl
theorem r410:runP (envL Tryz.prog pol [(208,peekS [e109]),(149,scalS (sizeV 40)),(173,scalS (size16V 40)),(58,outS faultSp),(182,outS isSp)]) 2000 52 e410.1.1 e410.1.2=some e410.2:=by kernel_rfl
theorem r411:runP (envL Tryz.prog pol [(208,peekS [e109]),(149,scalS (sizeV 40)),(173,scalS (size16V 40)),(58,outS faultSp),(182,outS isSp)]) 2000 52 e411.1.1 e411.1.2=some e411.2:=by kernel_rfl
theorem r412:runP (envL Tryz.prog pol [(208,peekS [e109]),(52,peekS [e410,e411]),(149,scalS (sizeV 40)),(173,scalS (size16V 40)),(58,outS faultSp),(182,outS isSp)]) 2000 52 e412.1.1 e412.1.2=some e412.2:=by kernel_rfl
theorem r441:runP (envL Tryz.prog pol [(208,peekS [e109]),(149,scalS (sizeV 40)),(173,scalS (size16V 40)),(58,outS faultSp),(182,outS isSp)]) 2000 52 e441.1.1 e441.1.2=some e441.2:=by kernel_rfl
theorem r442:runP (envL Tryz.prog pol [(208,peekS [e109]),(149,scalS (sizeV 40)),(173,scalS (size16V 40)),(58,outS faultSp),(182,outS isSp)]) 2000 52 e442.1.1 e442.1.2=some e442.2:=by kernel_rfl
theorem r443:runP (envL Tryz.prog pol [(208,peekS [e109]),(149,scalS (sizeV 40)),(173,scalS (size16V 40)),(58,outS faultSp),(182,outS isSp)]) 2000 52 e443.1.1 e443.1.2=some e443.2:=by kernel_rfl
theorem r444:runP (envL Tryz.prog pol [(208,peekS [e109]),(52,peekS [e442,e443]),(149,scalS (sizeV 40)),(173,scalS (size16V 40)),(58,outS faultSp),(182,outS isSp)]) 2000 52 e444.1.1 e444.1.2=some e444.2:=by kernel_rfl
theorem r475:runP (envL Tryz.prog pol [(208,peekS [e109]),(149,scalS (sizeV 40)),(173,scalS (size16V 40)),(58,outS faultSp),(182,outS isSp)]) 2000 52 e475.1.1 e475.1.2=some e475.2:=by kernel_rfl
theorem r476:runP (envL Tryz.prog pol [(208,peekS [e109]),(149,scalS (sizeV 40)),(173,scalS (size16V 40)),(58,outS faultSp),(182,outS isSp)]) 2000 52 e476.1.1 e476.1.2=some e476.2:=by kernel_rfl
theorem r477:runP (envL Tryz.prog pol [(208,peekS [e109]),(149,scalS (sizeV 40)),(173,scalS (size16V 40)),(58,outS faultSp),(182,outS isSp)]) 2000 52 e477.1.1 e477.1.2=some e477.2:=by kernel_rfl
theorem r478:runP (envL Tryz.prog pol [(208,peekS [e109]),(52,peekS [e476,e477]),(149,scalS (sizeV 40)),(173,scalS (size16V 40)),(58,outS faultSp),(182,outS isSp)]) 2000 52 e478.1.1 e478.1.2=some e478.2:=by kernel_rfl
theorem r511:runP (envL Tryz.prog pol [(208,peekS [e109]),(149,scalS (sizeV 40)),(173,scalS (size16V 40)),(58,outS faultSp),(182,outS isSp)]) 2000 52 e511.1.1 e511.1.2=some e511.2:=by kernel_rfl
theorem r512:runP (envL Tryz.prog pol [(208,peekS [e109]),(149,scalS (sizeV 40)),(173,scalS (size16V 40)),(58,outS faultSp),(182,outS isSp)]) 2000 52 e512.1.1 e512.1.2=some e512.2:=by kernel_rfl
theorem r513:runP (envL Tryz.prog pol [(208,peekS [e109]),(149,scalS (sizeV 40)),(173,scalS (size16V 40)),(58,outS faultSp),(182,outS isSp)]) 2000 52 e513.1.1 e513.1.2=some e513.2:=by kernel_rfl
theorem r514:runP (envL Tryz.prog pol [(208,peekS [e109]),(52,peekS [e512,e513]),(149,scalS (sizeV 40)),(173,scalS (size16V 40)),(58,outS faultSp),(182,outS isSp)]) 2000 52 e514.1.1 e514.1.2=some e514.2:=by kernel_rfl
theorem r532:runP (envL Tryz.prog pol [(208,peekS [e109]),(149,scalS (sizeV 40)),(173,scalS (size16V 40)),(58,outS faultSp),(182,outS isSp)]) 2000 52 e532.1.1 e532.1.2=some e532.2:=by kernel_rfl
theorem r539:runP (envL Tryz.prog pol [(208,peekS [e109]),(149,scalS (sizeV 40)),(173,scalS (size16V 40)),(58,outS faultSp),(182,outS isSp)]) 2000 52 e539.1.1 e539.1.2=some e539.2:=by kernel_rfl
theorem r540:runP (envL Tryz.prog pol [(208,peekS [e109]),(149,scalS (sizeV 40)),(173,scalS (size16V 40)),(58,outS faultSp),(182,outS isSp)]) 2000 52 e540.1.1 e540.1.2=some e540.2:=by kernel_rfl
theorem r541:runP (envL Tryz.prog pol [(208,peekS [e109]),(52,peekS [e539,e540]),(149,scalS (sizeV 40)),(173,scalS (size16V 40)),(58,outS faultSp),(182,outS isSp)]) 2000 52 e541.1.1 e541.1.2=some e541.2:=by kernel_rfl
theorem r550:runP (envL Tryz.prog pol [(208,peekS [e109]),(149,scalS (sizeV 40)),(173,scalS (size16V 40)),(58,outS faultSp),(182,outS isSp)]) 2000 52 e550.1.1 e550.1.2=some e550.2:=by kernel_rfl
theorem r551:runP (envL Tryz.prog pol [(208,peekS [e109]),(52,peekS [e112,e550]),(149,scalS (sizeV 40)),(173,scalS (size16V 40)),(58,outS faultSp),(182,outS isSp)]) 2000 52 e551.1.1 e551.1.2=some e551.2:=by kernel_rfl
theorem r552:runP (envL Tryz.prog pol [(208,peekS [e109]),(52,peekS [e540,e551]),(149,scalS (sizeV 40)),(173,scalS (size16V 40)),(58,outS faultSp),(182,outS isSp)]) 2000 52 e552.1.1 e552.1.2=some e552.2:=by kernel_rfl
theorem r554:runP (envL Tryz.prog pol [(149,scalS (sizeV 40)),(173,scalS (size16V 40)),(58,outS faultSp),(182,outS isSp)]) 2000 150 e554.1.1 e554.1.2=some e554.2:=by kernel_rfl
theorem r555:runP (envL Tryz.prog pol [(149,scalS (sizeV 40)),(173,scalS (size16V 40)),(58,outS faultSp),(182,outS isSp)]) 2000 150 e555.1.1 e555.1.2=some e555.2:=by kernel_rfl
theorem r559:runP (envL Tryz.prog pol [(149,scalS (sizeV 40)),(173,scalS (size16V 40)),(58,outS faultSp),(182,outS isSp)]) 2000 213 e559.1.1 e559.1.2=some e559.2:=by kernel_rfl
theorem r567:runP (envL Tryz.prog pol [(208,peekS [e109]),(149,scalS (sizeV 40)),(173,scalS (size16V 40)),(58,outS faultSp),(182,outS isSp)]) 2000 52 e567.1.1 e567.1.2=some e567.2:=by kernel_rfl
theorem r568:runP (envL Tryz.prog pol [(208,peekS [e109]),(149,scalS (sizeV 40)),(173,scalS (size16V 40)),(58,outS faultSp),(182,outS isSp)]) 2000 52 e568.1.1 e568.1.2=some e568.2:=by kernel_rfl
theorem r569:runP (envL Tryz.prog pol [(208,peekS [e109]),(52,peekS [e567,e568]),(149,scalS (sizeV 40)),(173,scalS (size16V 40)),(58,outS faultSp),(182,outS isSp)]) 2000 52 e569.1.1 e569.1.2=some e569.2:=by kernel_rfl
theorem r573:runP (envL Tryz.prog pol [(149,scalS (sizeV 40)),(173,scalS (size16V 40)),(58,outS faultSp),(182,outS isSp)]) 2000 150 e573.1.1 e573.1.2=some e573.2:=by kernel_rfl
theorem r574:runP (envL Tryz.prog pol [(149,scalS (sizeV 40)),(173,scalS (size16V 40)),(58,outS faultSp),(182,outS isSp)]) 2000 150 e574.1.1 e574.1.2=some e574.2:=by kernel_rfl
theorem r588:runP (envL Tryz.prog pol [(208,peekS [e109]),(149,scalS (sizeV 40)),(173,scalS (size16V 40)),(58,outS faultSp),(182,outS isSp)]) 2000 52 e588.1.1 e588.1.2=some e588.2:=by kernel_rfl
theorem r589:runP (envL Tryz.prog pol [(208,peekS [e109]),(149,scalS (sizeV 40)),(173,scalS (size16V 40)),(58,outS faultSp),(182,outS isSp)]) 2000 52 e589.1.1 e589.1.2=some e589.2:=by kernel_rfl
theorem r595:runP (envL Tryz.prog pol [(149,scalS (sizeV 40)),(173,scalS (size16V 40)),(58,outS faultSp),(182,outS isSp)]) 2000 150 e595.1.1 e595.1.2=some e595.2:=by kernel_rfl
theorem r597:runP (envL Tryz.prog pol [(149,scalS (sizeV 40)),(173,scalS (size16V 40)),(58,outS faultSp),(182,outS isSp)]) 2000 150 e597.1.1 e597.1.2=some e597.2:=by kernel_rfl
theorem r604:runP (envL Tryz.prog pol [(149,scalS (sizeV 40)),(173,scalS (size16V 40)),(58,outS faultSp),(182,outS isSp)]) 2000 213 e604.1.1 e604.1.2=some e604.2:=by kernel_rfl
theorem r614:runP (envL Tryz.prog pol [(208,peekS [e109]),(149,scalS (sizeV 40)),(173,scalS (size16V 40)),(58,outS faultSp),(182,outS isSp)]) 2000 52 e614.1.1 e614.1.2=some e614.2:=by kernel_rfl
theorem r615:runP (envL Tryz.prog pol [(208,peekS [e109]),(149,scalS (sizeV 40)),(173,scalS (size16V 40)),(58,outS faultSp),(182,outS isSp)]) 2000 52 e615.1.1 e615.1.2=some e615.2:=by kernel_rfl
theorem r627:runP (envL Tryz.prog pol [(149,scalS (sizeV 40)),(173,scalS (size16V 40)),(58,outS faultSp),(182,outS isSp)]) 2000 150 e627.1.1 e627.1.2=some e627.2:=by kernel_rfl
theorem r628:runP (envL Tryz.prog pol [(149,scalS (sizeV 40)),(173,scalS (size16V 40)),(58,outS faultSp),(182,outS isSp)]) 2000 150 e628.1.1 e628.1.2=some e628.2:=by kernel_rfl
theorem r643:runP (envL Tryz.prog pol [(208,peekS [e109]),(149,scalS (sizeV 40)),(173,scalS (size16V 40)),(58,outS faultSp),(182,outS isSp)]) 2000 52 e643.1.1 e643.1.2=some e643.2:=by kernel_rfl
theorem r644:runP (envL Tryz.prog pol [(208,peekS [e109]),(149,scalS (sizeV 40)),(173,scalS (size16V 40)),(58,outS faultSp),(182,outS isSp)]) 2000 52 e644.1.1 e644.1.2=some e644.2:=by kernel_rfl
theorem r661:runP (envL Tryz.prog pol [(149,scalS (sizeV 40)),(173,scalS (size16V 40)),(58,outS faultSp),(182,outS isSp)]) 2000 150 e661.1.1 e661.1.2=some e661.2:=by kernel_rfl
theorem r662:runP (envL Tryz.prog pol [(149,scalS (sizeV 40)),(173,scalS (size16V 40)),(58,outS faultSp),(182,outS isSp)]) 2000 150 e662.1.1 e662.1.2=some e662.2:=by kernel_rfl
theorem r665:runP (envL Tryz.prog pol [(149,scalS (sizeV 40)),(173,scalS (size16V 40)),(58,outS faultSp),(182,outS isSp)]) 2000 213 e665.1.1 e665.1.2=some e665.2:=by kernel_rfl
theorem r677:runP (envL Tryz.prog pol [(208,peekS [e109]),(149,scalS (sizeV 40)),(173,scalS (size16V 40)),(58,outS faultSp),(182,outS isSp)]) 2000 52 e677.1.1 e677.1.2=some e677.2:=by kernel_rfl
theorem r686:runP (envL Tryz.prog pol [(149,scalS (sizeV 40)),(173,scalS (size16V 40)),(58,outS faultSp),(182,outS isSp)]) 2000 150 e686.1.1 e686.1.2=some e686.2:=by kernel_rfl
theorem r697:runP (envL Tryz.prog pol [(149,scalS (sizeV 40)),(173,scalS (size16V 40)),(58,outS faultSp),(182,outS isSp)]) 2000 150 e697.1.1 e697.1.2=some e697.2:=by kernel_rfl
theorem r710:runP (envL Tryz.prog pol [(208,peekS [e109]),(149,scalS (sizeV 40)),(173,scalS (size16V 40)),(58,outS faultSp),(182,outS isSp)]) 2000 52 e710.1.1 e710.1.2=some e710.2:=by kernel_rfl
theorem r711:runP (envL Tryz.prog pol [(208,peekS [e109]),(149,scalS (sizeV 40)),(173,scalS (size16V 40)),(58,outS faultSp),(182,outS isSp)]) 2000 52 e711.1.1 e711.1.2=some e711.2:=by kernel_rfl
theorem r721:runP (envL Tryz.prog pol [(149,scalS (sizeV 40)),(173,scalS (size16V 40)),(58,outS faultSp),(182,outS isSp)]) 2000 150 e721.1.1 e721.1.2=some e721.2:=by kernel_rfl
theorem r722:runP (envL Tryz.prog pol [(149,scalS (sizeV 40)),(173,scalS (size16V 40)),(58,outS faultSp),(182,outS isSp)]) 2000 150 e722.1.1 e722.1.2=some e722.2:=by kernel_rfl
theorem r733:runP (envL Tryz.prog pol [(149,scalS (sizeV 40)),(173,scalS (size16V 40)),(58,outS faultSp),(182,outS isSp)]) 2000 213 e733.1.1 e733.1.2=some e733.2:=by kernel_rfl
theorem r747:runP (envL Tryz.prog pol [(208,peekS [e109]),(149,scalS (sizeV 40)),(173,scalS (size16V 40)),(58,outS faultSp),(182,outS isSp)]) 2000 52 e747.1.1 e747.1.2=some e747.2:=by kernel_rfl
theorem r748:runP (envL Tryz.prog pol [(208,peekS [e109]),(149,scalS (sizeV 40)),(173,scalS (size16V 40)),(58,outS faultSp),(182,outS isSp)]) 2000 52 e748.1.1 e748.1.2=some e748.2:=by kernel_rfl
theorem r759:runP (envL Tryz.prog pol [(149,scalS (sizeV 40)),(173,scalS (size16V 40)),(58,outS faultSp),(182,outS isSp)]) 2000 150 e759.1.1 e759.1.2=some e759.2:=by kernel_rfl
theorem r760:runP (envL Tryz.prog pol [(149,scalS (sizeV 40)),(173,scalS (size16V 40)),(58,outS faultSp),(182,outS isSp)]) 2000 150 e760.1.1 e760.1.2=some e760.2:=by kernel_rfl
theorem r785:runP (envL Tryz.prog pol [(208,peekS [e109]),(149,scalS (sizeV 40)),(173,scalS (size16V 40)),(58,outS faultSp),(182,outS isSp)]) 2000 52 e785.1.1 e785.1.2=some e785.2:=by kernel_rfl
theorem r786:runP (envL Tryz.prog pol [(208,peekS [e109]),(149,scalS (sizeV 40)),(173,scalS (size16V 40)),(58,outS faultSp),(182,outS isSp)]) 2000 52 e786.1.1 e786.1.2=some e786.2:=by kernel_rfl
theorem r798:runP (envL Tryz.prog pol [(149,scalS (sizeV 40)),(173,scalS (size16V 40)),(58,outS faultSp),(182,outS isSp)]) 2000 150 e798.1.1 e798.1.2=some e798.2:=by kernel_rfl
theorem r799:runP (envL Tryz.prog pol [(149,scalS (sizeV 40)),(173,scalS (size16V 40)),(58,outS faultSp),(182,outS isSp)]) 2000 150 e799.1.1 e799.1.2=some e799.2:=by kernel_rfl
theorem r810:runP (envL Tryz.prog pol [(149,scalS (sizeV 40)),(173,scalS (size16V 40)),(58,outS faultSp),(182,outS isSp)]) 2000 213 e810.1.1 e810.1.2=some e810.2:=by kernel_rfl
theorem r826:runP (envL Tryz.prog pol [(208,peekS [e109]),(149,scalS (sizeV 40)),(173,scalS (size16V 40)),(58,outS faultSp),(182,outS isSp)]) 2000 52 e826.1.1 e826.1.2=some e826.2:=by kernel_rfl
theorem r827:runP (envL Tryz.prog pol [(208,peekS [e109]),(149,scalS (sizeV 40)),(173,scalS (size16V 40)),(58,outS faultSp),(182,outS isSp)]) 2000 52 e827.1.1 e827.1.2=some e827.2:=by kernel_rfl
theorem r840:runP (envL Tryz.prog pol [(149,scalS (sizeV 40)),(173,scalS (size16V 40)),(58,outS faultSp),(182,outS isSp)]) 2000 150 e840.1.1 e840.1.2=some e840.2:=by kernel_rfl
theorem r841:runP (envL Tryz.prog pol [(149,scalS (sizeV 40)),(173,scalS (size16V 40)),(58,outS faultSp),(182,outS isSp)]) 2000 150 e841.1.1 e841.1.2=some e841.2:=by kernel_rfl
theorem r868:runP (envL Tryz.prog pol [(208,peekS [e109]),(149,scalS (sizeV 40)),(173,scalS (size16V 40)),(58,outS faultSp),(182,outS isSp)]) 2000 52 e868.1.1 e868.1.2=some e868.2:=by kernel_rfl
theorem r882:runP (envL Tryz.prog pol [(149,scalS (sizeV 40)),(173,scalS (size16V 40)),(58,outS faultSp),(182,outS isSp)]) 2000 150 e882.1.1 e882.1.2=some e882.2:=by kernel_rfl
theorem r883:runP (envL Tryz.prog pol [(149,scalS (sizeV 40)),(173,scalS (size16V 40)),(58,outS faultSp),(182,outS isSp)]) 2000 150 e883.1.1 e883.1.2=some e883.2:=by kernel_rfl
theorem r894:runP (envL Tryz.prog pol [(149,scalS (sizeV 40)),(173,scalS (size16V 40)),(58,outS faultSp),(182,outS isSp)]) 2000 213 e894.1.1 e894.1.2=some e894.2:=by kernel_rfl
theorem r912:runP (envL Tryz.prog pol [(208,peekS [e109]),(149,scalS (sizeV 40)),(173,scalS (size16V 40)),(58,outS faultSp),(182,outS isSp)]) 2000 52 e912.1.1 e912.1.2=some e912.2:=by kernel_rfl
theorem r913:runP (envL Tryz.prog pol [(208,peekS [e109]),(149,scalS (sizeV 40)),(173,scalS (size16V 40)),(58,outS faultSp),(182,outS isSp)]) 2000 52 e913.1.1 e913.1.2=some e913.2:=by kernel_rfl
theorem r928:runP (envL Tryz.prog pol [(149,scalS (sizeV 40)),(173,scalS (size16V 40)),(58,outS faultSp),(182,outS isSp)]) 2000 150 e928.1.1 e928.1.2=some e928.2:=by kernel_rfl
theorem r929:runP (envL Tryz.prog pol [(149,scalS (sizeV 40)),(173,scalS (size16V 40)),(58,outS faultSp),(182,outS isSp)]) 2000 150 e929.1.1 e929.1.2=some e929.2:=by kernel_rfl
theorem r944:runP (envL Tryz.prog pol [(149,scalS (sizeV 40)),(173,scalS (size16V 40)),(58,outS faultSp),(182,outS isSp)]) 2000 90 e944.1.1 e944.1.2=some e944.2:=by kernel_rfl
theorem r945:runP (envL Tryz.prog pol [(149,scalS (sizeV 40)),(173,scalS (size16V 40)),(58,outS faultSp),(182,outS isSp)]) 2000 91 e945.1.1 e945.1.2=some e945.2:=by kernel_rfl
theorem r950:runP (envL Tryz.prog pol [(149,scalS (sizeV 40)),(173,scalS (size16V 40)),(58,outS faultSp),(182,outS isSp)]) 2000 90 e950.1.1 e950.1.2=some e950.2:=by kernel_rfl
theorem r954:runP (envL Tryz.prog pol [(149,scalS (sizeV 40)),(173,scalS (size16V 40)),(58,outS faultSp),(182,outS isSp)]) 2000 169 e954.1.1 e954.1.2=some e954.2:=by kernel_rfl
theorem r958:runP (envL Tryz.prog pol [(149,scalS (sizeV 40)),(173,scalS (size16V 40)),(58,outS faultSp),(182,outS isSp)]) 2000 90 e958.1.1 e958.1.2=some e958.2:=by kernel_rfl
theorem r962:runP (envL Tryz.prog pol [(149,scalS (sizeV 40)),(173,scalS (size16V 40)),(58,outS faultSp),(182,outS isSp)]) 2000 91 e962.1.1 e962.1.2=some e962.2:=by kernel_rfl
theorem r968:runP (envL Tryz.prog pol [(149,scalS (sizeV 40)),(173,scalS (size16V 40)),(58,outS faultSp),(182,outS isSp)]) 2000 271 e968.1.1 e968.1.2=some e968.2:=by kernel_rfl
theorem r1216:runP (envL Tryz.prog pol [(149,scalS (sizeV 40)),(173,scalS (size16V 40)),(58,outS faultSp),(182,outS isSp)]) 2000 90 e1216.1.1 e1216.1.2=some e1216.2:=by kernel_rfl
theorem r1217:runP (envL Tryz.prog pol [(149,scalS (sizeV 40)),(173,scalS (size16V 40)),(58,outS faultSp),(182,outS isSp)]) 2000 90 e1217.1.1 e1217.1.2=some e1217.2:=by kernel_rfl
theorem r1241:runP (envL Tryz.prog pol [(149,scalS (sizeV 40)),(173,scalS (size16V 40)),(58,outS faultSp),(182,outS isSp)]) 2000 90 e1241.1.1 e1241.1.2=some e1241.2:=by kernel_rfl
theorem r1242:runP (envL Tryz.prog pol [(149,scalS (sizeV 40)),(173,scalS (size16V 40)),(58,outS faultSp),(182,outS isSp)]) 2000 90 e1242.1.1 e1242.1.2=some e1242.2:=by kernel_rfl
theorem r1266:runP (envL Tryz.prog pol [(149,scalS (sizeV 40)),(173,scalS (size16V 40)),(58,outS faultSp),(182,outS isSp)]) 2000 90 e1266.1.1 e1266.1.2=some e1266.2:=by kernel_rfl
theorem r1267:runP (envL Tryz.prog pol [(149,scalS (sizeV 40)),(173,scalS (size16V 40)),(58,outS faultSp),(182,outS isSp)]) 2000 90 e1267.1.1 e1267.1.2=some e1267.2:=by kernel_rfl
end Go.Proofs.YtjilhkjgejnmpaaGreatDoor
