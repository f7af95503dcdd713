import Derived.Test.YtjilhkjgejnmpaaGreatDoorIDb
set_option linter.all false
noncomputable section
/- Runs. -/
namespace Go.Proofs.YtjilhkjgejnmpaaGreatDoor
open Go.J
theorem r35:runP (envL Tryz.prog pol [(149,scalS (sizeV 40)),(173,scalS (size16V 40)),(58,outS faultSp),(182,outS isSp)]) 2000 106 e35.1.1 e35.1.2=some e35.2:=by kernel_rfl
theorem r36:runP (envL Tryz.prog pol [(149,scalS (sizeV 40)),(173,scalS (size16V 40)),(58,outS faultSp),(182,outS isSp)]) 2000 106 e36.1.1 e36.1.2=some e36.2:=by kernel_rfl
theorem r66:runP (envL Tryz.prog pol [(149,scalS (sizeV 40)),(173,scalS (size16V 40)),(58,outS faultSp),(182,outS isSp)]) 2000 106 e66.1.1 e66.1.2=some e66.2:=by kernel_rfl
theorem r91:runP (envL Tryz.prog pol [(149,scalS (sizeV 40)),(173,scalS (size16V 40)),(58,outS faultSp),(182,outS isSp)]) 2000 50 e91.1.1 e91.1.2=some e91.2:=by kernel_rfl
theorem r94:runP (envL Tryz.prog pol [(149,scalS (sizeV 40)),(173,scalS (size16V 40)),(58,outS faultSp),(182,outS isSp)]) 2000 57 e94.1.1 e94.1.2=some e94.2:=by kernel_rfl
theorem r97:runP (envL Tryz.prog pol [(149,scalS (sizeV 40)),(173,scalS (size16V 40)),(58,outS faultSp),(182,outS isSp)]) 2000 134 e97.1.1 e97.1.2=some e97.2:=by kernel_rfl
theorem r100:runP (envL Tryz.prog pol [(149,scalS (sizeV 40)),(173,scalS (size16V 40)),(58,outS faultSp),(182,outS isSp)]) 2000 212 e100.1.1 e100.1.2=some e100.2:=by kernel_rfl
theorem r103:runP (envL Tryz.prog pol [(149,scalS (sizeV 40)),(173,scalS (size16V 40)),(58,outS faultSp),(182,outS isSp)]) 2000 50 e103.1.1 e103.1.2=some e103.2:=by kernel_rfl
theorem r104:runP (envL Tryz.prog pol [(149,scalS (sizeV 40)),(173,scalS (size16V 40)),(58,outS faultSp),(182,outS isSp)]) 2000 50 e104.1.1 e104.1.2=some e104.2:=by kernel_rfl
theorem r105:runP (envL Tryz.prog pol [(149,scalS (sizeV 40)),(173,scalS (size16V 40)),(58,outS faultSp),(182,outS isSp)]) 2000 50 e105.1.1 e105.1.2=some e105.2:=by kernel_rfl
theorem r118:runP (envL Tryz.prog pol [(149,scalS (sizeV 40)),(173,scalS (size16V 40)),(58,outS faultSp),(182,outS isSp)]) 2000 134 e118.1.1 e118.1.2=some e118.2:=by kernel_rfl
theorem r119:runP (envL Tryz.prog pol [(149,scalS (sizeV 40)),(173,scalS (size16V 40)),(58,outS faultSp),(182,outS isSp)]) 2000 134 e119.1.1 e119.1.2=some e119.2:=by kernel_rfl
theorem r128:runP (envL Tryz.prog pol [(149,scalS (sizeV 40)),(173,scalS (size16V 40)),(58,outS faultSp),(182,outS isSp)]) 2000 212 e128.1.1 e128.1.2=some e128.2:=by kernel_rfl
theorem r129:runP (envL Tryz.prog pol [(212,peekS [e128]),(149,scalS (sizeV 40)),(173,scalS (size16V 40)),(58,outS faultSp),(182,outS isSp)]) 2000 212 e129.1.1 e129.1.2=some e129.2:=by kernel_rfl
theorem r130:runP (envL Tryz.prog pol [(212,peekS [e128,e129]),(149,scalS (sizeV 40)),(173,scalS (size16V 40)),(58,outS faultSp),(182,outS isSp)]) 2000 212 e130.1.1 e130.1.2=some e130.2:=by kernel_rfl
theorem r131:runP (envL Tryz.prog pol [(212,peekS [e100]),(149,scalS (sizeV 40)),(173,scalS (size16V 40)),(58,outS faultSp),(182,outS isSp)]) 2000 212 e131.1.1 e131.1.2=some e131.2:=by kernel_rfl
theorem r135:runP (envL Tryz.prog pol [(149,scalS (sizeV 40)),(173,scalS (size16V 40)),(58,outS faultSp),(182,outS isSp)]) 2000 50 e135.1.1 e135.1.2=some e135.2:=by kernel_rfl
theorem r136:runP (envL Tryz.prog pol [(149,scalS (sizeV 40)),(173,scalS (size16V 40)),(58,outS faultSp),(182,outS isSp)]) 2000 50 e136.1.1 e136.1.2=some e136.2:=by kernel_rfl
theorem r137:runP (envL Tryz.prog pol [(149,scalS (sizeV 40)),(173,scalS (size16V 40)),(58,outS faultSp),(182,outS isSp)]) 2000 50 e137.1.1 e137.1.2=some e137.2:=by kernel_rfl
theorem r151:runP (envL Tryz.prog pol [(149,scalS (sizeV 40)),(173,scalS (size16V 40)),(58,outS faultSp),(182,outS isSp)]) 2000 134 e151.1.1 e151.1.2=some e151.2:=by kernel_rfl
theorem r152:runP (envL Tryz.prog pol [(149,scalS (sizeV 40)),(173,scalS (size16V 40)),(58,outS faultSp),(182,outS isSp)]) 2000 134 e152.1.1 e152.1.2=some e152.2:=by kernel_rfl
theorem r162:runP (envL Tryz.prog pol [(212,peekS [e131]),(149,scalS (sizeV 40)),(173,scalS (size16V 40)),(58,outS faultSp),(182,outS isSp)]) 2000 212 e162.1.1 e162.1.2=some e162.2:=by kernel_rfl
theorem r166:runP (envL Tryz.prog pol [(149,scalS (sizeV 40)),(173,scalS (size16V 40)),(58,outS faultSp),(182,outS isSp)]) 2000 50 e166.1.1 e166.1.2=some e166.2:=by kernel_rfl
theorem r167:runP (envL Tryz.prog pol [(149,scalS (sizeV 40)),(173,scalS (size16V 40)),(58,outS faultSp),(182,outS isSp)]) 2000 50 e167.1.1 e167.1.2=some e167.2:=by kernel_rfl
theorem r168:runP (envL Tryz.prog pol [(149,scalS (sizeV 40)),(173,scalS (size16V 40)),(58,outS faultSp),(182,outS isSp)]) 2000 50 e168.1.1 e168.1.2=some e168.2:=by kernel_rfl
theorem r184:runP (envL Tryz.prog pol [(149,scalS (sizeV 40)),(173,scalS (size16V 40)),(58,outS faultSp),(182,outS isSp)]) 2000 134 e184.1.1 e184.1.2=some e184.2:=by kernel_rfl
theorem r195:runP (envL Tryz.prog pol [(212,peekS [e162]),(149,scalS (sizeV 40)),(173,scalS (size16V 40)),(58,outS faultSp),(182,outS isSp)]) 2000 212 e195.1.1 e195.1.2=some e195.2:=by kernel_rfl
theorem r199:runP (envL Tryz.prog pol [(149,scalS (sizeV 40)),(173,scalS (size16V 40)),(58,outS faultSp),(182,outS isSp)]) 2000 50 e199.1.1 e199.1.2=some e199.2:=by kernel_rfl
theorem r200:runP (envL Tryz.prog pol [(149,scalS (sizeV 40)),(173,scalS (size16V 40)),(58,outS faultSp),(182,outS isSp)]) 2000 50 e200.1.1 e200.1.2=some e200.2:=by kernel_rfl
theorem r201:runP (envL Tryz.prog pol [(149,scalS (sizeV 40)),(173,scalS (size16V 40)),(58,outS faultSp),(182,outS isSp)]) 2000 50 e201.1.1 e201.1.2=some e201.2:=by kernel_rfl
theorem r219:runP (envL Tryz.prog pol [(149,scalS (sizeV 40)),(173,scalS (size16V 40)),(58,outS faultSp),(182,outS isSp)]) 2000 134 e219.1.1 e219.1.2=some e219.2:=by kernel_rfl
theorem r230:runP (envL Tryz.prog pol [(212,peekS [e195]),(149,scalS (sizeV 40)),(173,scalS (size16V 40)),(58,outS faultSp),(182,outS isSp)]) 2000 212 e230.1.1 e230.1.2=some e230.2:=by kernel_rfl
theorem r234:runP (envL Tryz.prog pol [(149,scalS (sizeV 40)),(173,scalS (size16V 40)),(58,outS faultSp),(182,outS isSp)]) 2000 50 e234.1.1 e234.1.2=some e234.2:=by kernel_rfl
theorem r235:runP (envL Tryz.prog pol [(149,scalS (sizeV 40)),(173,scalS (size16V 40)),(58,outS faultSp),(182,outS isSp)]) 2000 50 e235.1.1 e235.1.2=some e235.2:=by kernel_rfl
theorem r236:runP (envL Tryz.prog pol [(149,scalS (sizeV 40)),(173,scalS (size16V 40)),(58,outS faultSp),(182,outS isSp)]) 2000 50 e236.1.1 e236.1.2=some e236.2:=by kernel_rfl
theorem r256:runP (envL Tryz.prog pol [(149,scalS (sizeV 40)),(173,scalS (size16V 40)),(58,outS faultSp),(182,outS isSp)]) 2000 134 e256.1.1 e256.1.2=some e256.2:=by kernel_rfl
theorem r267:runP (envL Tryz.prog pol [(212,peekS [e230]),(149,scalS (sizeV 40)),(173,scalS (size16V 40)),(58,outS faultSp),(182,outS isSp)]) 2000 212 e267.1.1 e267.1.2=some e267.2:=by kernel_rfl
theorem r271:runP (envL Tryz.prog pol [(149,scalS (sizeV 40)),(173,scalS (size16V 40)),(58,outS faultSp),(182,outS isSp)]) 2000 50 e271.1.1 e271.1.2=some e271.2:=by kernel_rfl
theorem r272:runP (envL Tryz.prog pol [(149,scalS (sizeV 40)),(173,scalS (size16V 40)),(58,outS faultSp),(182,outS isSp)]) 2000 50 e272.1.1 e272.1.2=some e272.2:=by kernel_rfl
theorem r273:runP (envL Tryz.prog pol [(149,scalS (sizeV 40)),(173,scalS (size16V 40)),(58,outS faultSp),(182,outS isSp)]) 2000 50 e273.1.1 e273.1.2=some e273.2:=by kernel_rfl
theorem r295:runP (envL Tryz.prog pol [(149,scalS (sizeV 40)),(173,scalS (size16V 40)),(58,outS faultSp),(182,outS isSp)]) 2000 134 e295.1.1 e295.1.2=some e295.2:=by kernel_rfl
theorem r306:runP (envL Tryz.prog pol [(212,peekS [e267]),(149,scalS (sizeV 40)),(173,scalS (size16V 40)),(58,outS faultSp),(182,outS isSp)]) 2000 212 e306.1.1 e306.1.2=some e306.2:=by kernel_rfl
theorem r310:runP (envL Tryz.prog pol [(149,scalS (sizeV 40)),(173,scalS (size16V 40)),(58,outS faultSp),(182,outS isSp)]) 2000 50 e310.1.1 e310.1.2=some e310.2:=by kernel_rfl
theorem r311:runP (envL Tryz.prog pol [(149,scalS (sizeV 40)),(173,scalS (size16V 40)),(58,outS faultSp),(182,outS isSp)]) 2000 50 e311.1.1 e311.1.2=some e311.2:=by kernel_rfl
theorem r312:runP (envL Tryz.prog pol [(149,scalS (sizeV 40)),(173,scalS (size16V 40)),(58,outS faultSp),(182,outS isSp)]) 2000 50 e312.1.1 e312.1.2=some e312.2:=by kernel_rfl
theorem r338:runP (envL Tryz.prog pol [(149,scalS (sizeV 40)),(173,scalS (size16V 40)),(58,outS faultSp),(182,outS isSp)]) 2000 50 e338.1.1 e338.1.2=some e338.2:=by kernel_rfl
theorem r339:runP (envL Tryz.prog pol [(149,scalS (sizeV 40)),(173,scalS (size16V 40)),(58,outS faultSp),(182,outS isSp)]) 2000 50 e339.1.1 e339.1.2=some e339.2:=by kernel_rfl
theorem r340:runP (envL Tryz.prog pol [(149,scalS (sizeV 40)),(173,scalS (size16V 40)),(58,outS faultSp),(182,outS isSp)]) 2000 50 e340.1.1 e340.1.2=some e340.2:=by kernel_rfl
theorem r365:runP (envL Tryz.prog pol [(149,scalS (sizeV 40)),(173,scalS (size16V 40)),(58,outS faultSp),(182,outS isSp)]) 2000 50 e365.1.1 e365.1.2=some e365.2:=by kernel_rfl
theorem r366:runP (envL Tryz.prog pol [(149,scalS (sizeV 40)),(173,scalS (size16V 40)),(58,outS faultSp),(182,outS isSp)]) 2000 50 e366.1.1 e366.1.2=some e366.2:=by kernel_rfl
theorem r367:runP (envL Tryz.prog pol [(149,scalS (sizeV 40)),(173,scalS (size16V 40)),(58,outS faultSp),(182,outS isSp)]) 2000 50 e367.1.1 e367.1.2=some e367.2:=by kernel_rfl
theorem r394:runP (envL Tryz.prog pol [(149,scalS (sizeV 40)),(173,scalS (size16V 40)),(58,outS faultSp),(182,outS isSp)]) 2000 50 e394.1.1 e394.1.2=some e394.2:=by kernel_rfl
theorem r395:runP (envL Tryz.prog pol [(149,scalS (sizeV 40)),(173,scalS (size16V 40)),(58,outS faultSp),(182,outS isSp)]) 2000 50 e395.1.1 e395.1.2=some e395.2:=by kernel_rfl
theorem r396:runP (envL Tryz.prog pol [(149,scalS (sizeV 40)),(173,scalS (size16V 40)),(58,outS faultSp),(182,outS isSp)]) 2000 50 e396.1.1 e396.1.2=some e396.2:=by kernel_rfl
theorem r425:runP (envL Tryz.prog pol [(149,scalS (sizeV 40)),(173,scalS (size16V 40)),(58,outS faultSp),(182,outS isSp)]) 2000 50 e425.1.1 e425.1.2=some e425.2:=by kernel_rfl
theorem r426:runP (envL Tryz.prog pol [(149,scalS (sizeV 40)),(173,scalS (size16V 40)),(58,outS faultSp),(182,outS isSp)]) 2000 50 e426.1.1 e426.1.2=some e426.2:=by kernel_rfl
theorem r427:runP (envL Tryz.prog pol [(149,scalS (sizeV 40)),(173,scalS (size16V 40)),(58,outS faultSp),(182,outS isSp)]) 2000 50 e427.1.1 e427.1.2=some e427.2:=by kernel_rfl
theorem r458:runP (envL Tryz.prog pol [(149,scalS (sizeV 40)),(173,scalS (size16V 40)),(58,outS faultSp),(182,outS isSp)]) 2000 50 e458.1.1 e458.1.2=some e458.2:=by kernel_rfl
theorem r459:runP (envL Tryz.prog pol [(149,scalS (sizeV 40)),(173,scalS (size16V 40)),(58,outS faultSp),(182,outS isSp)]) 2000 50 e459.1.1 e459.1.2=some e459.2:=by kernel_rfl
theorem r460:runP (envL Tryz.prog pol [(149,scalS (sizeV 40)),(173,scalS (size16V 40)),(58,outS faultSp),(182,outS isSp)]) 2000 50 e460.1.1 e460.1.2=some e460.2:=by kernel_rfl
theorem r493:runP (envL Tryz.prog pol [(149,scalS (sizeV 40)),(173,scalS (size16V 40)),(58,outS faultSp),(182,outS isSp)]) 2000 50 e493.1.1 e493.1.2=some e493.2:=by kernel_rfl
theorem r494:runP (envL Tryz.prog pol [(149,scalS (sizeV 40)),(173,scalS (size16V 40)),(58,outS faultSp),(182,outS isSp)]) 2000 50 e494.1.1 e494.1.2=some e494.2:=by kernel_rfl
theorem r495:runP (envL Tryz.prog pol [(149,scalS (sizeV 40)),(173,scalS (size16V 40)),(58,outS faultSp),(182,outS isSp)]) 2000 50 e495.1.1 e495.1.2=some e495.2:=by kernel_rfl
theorem r510:runP (envL Tryz.prog pol [(50,peekS [e509]),(149,scalS (sizeV 40)),(173,scalS (size16V 40)),(58,outS faultSp),(182,outS isSp)]) 2000 50 e510.1.1 e510.1.2=some e510.2:=by kernel_rfl
theorem r530:runP (envL Tryz.prog pol [(149,scalS (sizeV 40)),(173,scalS (size16V 40)),(58,outS faultSp),(182,outS isSp)]) 2000 50 e530.1.1 e530.1.2=some e530.2:=by kernel_rfl
theorem r531:runP (envL Tryz.prog pol [(50,peekS [e530]),(149,scalS (sizeV 40)),(173,scalS (size16V 40)),(58,outS faultSp),(182,outS isSp)]) 2000 50 e531.1.1 e531.1.2=some e531.2:=by kernel_rfl
theorem r535:runP (envL Tryz.prog pol [(149,scalS (sizeV 40)),(173,scalS (size16V 40)),(58,outS faultSp),(182,outS isSp)]) 2000 50 e535.1.1 e535.1.2=some e535.2:=by kernel_rfl
theorem r536:runP (envL Tryz.prog pol [(149,scalS (sizeV 40)),(173,scalS (size16V 40)),(58,outS faultSp),(182,outS isSp)]) 2000 50 e536.1.1 e536.1.2=some e536.2:=by kernel_rfl
theorem r538:runP (envL Tryz.prog pol [(50,peekS [e537]),(149,scalS (sizeV 40)),(173,scalS (size16V 40)),(58,outS faultSp),(182,outS isSp)]) 2000 50 e538.1.1 e538.1.2=some e538.2:=by kernel_rfl
theorem r546:runP (envL Tryz.prog pol [(149,scalS (sizeV 40)),(173,scalS (size16V 40)),(58,outS faultSp),(182,outS isSp)]) 2000 50 e546.1.1 e546.1.2=some e546.2:=by kernel_rfl
theorem r549:runP (envL Tryz.prog pol [(50,peekS [e548]),(149,scalS (sizeV 40)),(173,scalS (size16V 40)),(58,outS faultSp),(182,outS isSp)]) 2000 50 e549.1.1 e549.1.2=some e549.2:=by kernel_rfl
theorem r561:runP (envL Tryz.prog pol [(149,scalS (sizeV 40)),(173,scalS (size16V 40)),(58,outS faultSp),(182,outS isSp)]) 2000 50 e561.1.1 e561.1.2=some e561.2:=by kernel_rfl
theorem r562:runP (envL Tryz.prog pol [(149,scalS (sizeV 40)),(173,scalS (size16V 40)),(58,outS faultSp),(182,outS isSp)]) 2000 50 e562.1.1 e562.1.2=some e562.2:=by kernel_rfl
theorem r566:runP (envL Tryz.prog pol [(50,peekS [e565]),(149,scalS (sizeV 40)),(173,scalS (size16V 40)),(58,outS faultSp),(182,outS isSp)]) 2000 50 e566.1.1 e566.1.2=some e566.2:=by kernel_rfl
theorem r581:runP (envL Tryz.prog pol [(149,scalS (sizeV 40)),(173,scalS (size16V 40)),(58,outS faultSp),(182,outS isSp)]) 2000 50 e581.1.1 e581.1.2=some e581.2:=by kernel_rfl
theorem r582:runP (envL Tryz.prog pol [(149,scalS (sizeV 40)),(173,scalS (size16V 40)),(58,outS faultSp),(182,outS isSp)]) 2000 50 e582.1.1 e582.1.2=some e582.2:=by kernel_rfl
theorem r587:runP (envL Tryz.prog pol [(50,peekS [e586]),(149,scalS (sizeV 40)),(173,scalS (size16V 40)),(58,outS faultSp),(182,outS isSp)]) 2000 50 e587.1.1 e587.1.2=some e587.2:=by kernel_rfl
theorem r606:runP (envL Tryz.prog pol [(149,scalS (sizeV 40)),(173,scalS (size16V 40)),(58,outS faultSp),(182,outS isSp)]) 2000 50 e606.1.1 e606.1.2=some e606.2:=by kernel_rfl
theorem r607:runP (envL Tryz.prog pol [(149,scalS (sizeV 40)),(173,scalS (size16V 40)),(58,outS faultSp),(182,outS isSp)]) 2000 50 e607.1.1 e607.1.2=some e607.2:=by kernel_rfl
theorem r613:runP (envL Tryz.prog pol [(50,peekS [e612]),(149,scalS (sizeV 40)),(173,scalS (size16V 40)),(58,outS faultSp),(182,outS isSp)]) 2000 50 e613.1.1 e613.1.2=some e613.2:=by kernel_rfl
theorem r634:runP (envL Tryz.prog pol [(149,scalS (sizeV 40)),(173,scalS (size16V 40)),(58,outS faultSp),(182,outS isSp)]) 2000 50 e634.1.1 e634.1.2=some e634.2:=by kernel_rfl
theorem r635:runP (envL Tryz.prog pol [(149,scalS (sizeV 40)),(173,scalS (size16V 40)),(58,outS faultSp),(182,outS isSp)]) 2000 50 e635.1.1 e635.1.2=some e635.2:=by kernel_rfl
theorem r642:runP (envL Tryz.prog pol [(50,peekS [e641]),(149,scalS (sizeV 40)),(173,scalS (size16V 40)),(58,outS faultSp),(182,outS isSp)]) 2000 50 e642.1.1 e642.1.2=some e642.2:=by kernel_rfl
theorem r667:runP (envL Tryz.prog pol [(149,scalS (sizeV 40)),(173,scalS (size16V 40)),(58,outS faultSp),(182,outS isSp)]) 2000 50 e667.1.1 e667.1.2=some e667.2:=by kernel_rfl
theorem r668:runP (envL Tryz.prog pol [(149,scalS (sizeV 40)),(173,scalS (size16V 40)),(58,outS faultSp),(182,outS isSp)]) 2000 50 e668.1.1 e668.1.2=some e668.2:=by kernel_rfl
theorem r676:runP (envL Tryz.prog pol [(50,peekS [e675]),(149,scalS (sizeV 40)),(173,scalS (size16V 40)),(58,outS faultSp),(182,outS isSp)]) 2000 50 e676.1.1 e676.1.2=some e676.2:=by kernel_rfl
theorem r699:runP (envL Tryz.prog pol [(149,scalS (sizeV 40)),(173,scalS (size16V 40)),(58,outS faultSp),(182,outS isSp)]) 2000 50 e699.1.1 e699.1.2=some e699.2:=by kernel_rfl
theorem r700:runP (envL Tryz.prog pol [(149,scalS (sizeV 40)),(173,scalS (size16V 40)),(58,outS faultSp),(182,outS isSp)]) 2000 50 e700.1.1 e700.1.2=some e700.2:=by kernel_rfl
theorem r709:runP (envL Tryz.prog pol [(50,peekS [e708]),(149,scalS (sizeV 40)),(173,scalS (size16V 40)),(58,outS faultSp),(182,outS isSp)]) 2000 50 e709.1.1 e709.1.2=some e709.2:=by kernel_rfl
theorem r735:runP (envL Tryz.prog pol [(149,scalS (sizeV 40)),(173,scalS (size16V 40)),(58,outS faultSp),(182,outS isSp)]) 2000 50 e735.1.1 e735.1.2=some e735.2:=by kernel_rfl
theorem r736:runP (envL Tryz.prog pol [(149,scalS (sizeV 40)),(173,scalS (size16V 40)),(58,outS faultSp),(182,outS isSp)]) 2000 50 e736.1.1 e736.1.2=some e736.2:=by kernel_rfl
theorem r746:runP (envL Tryz.prog pol [(50,peekS [e745]),(149,scalS (sizeV 40)),(173,scalS (size16V 40)),(58,outS faultSp),(182,outS isSp)]) 2000 50 e746.1.1 e746.1.2=some e746.2:=by kernel_rfl
theorem r772:runP (envL Tryz.prog pol [(149,scalS (sizeV 40)),(173,scalS (size16V 40)),(58,outS faultSp),(182,outS isSp)]) 2000 50 e772.1.1 e772.1.2=some e772.2:=by kernel_rfl
theorem r773:runP (envL Tryz.prog pol [(149,scalS (sizeV 40)),(173,scalS (size16V 40)),(58,outS faultSp),(182,outS isSp)]) 2000 50 e773.1.1 e773.1.2=some e773.2:=by kernel_rfl
theorem r784:runP (envL Tryz.prog pol [(50,peekS [e783]),(149,scalS (sizeV 40)),(173,scalS (size16V 40)),(58,outS faultSp),(182,outS isSp)]) 2000 50 e784.1.1 e784.1.2=some e784.2:=by kernel_rfl
theorem r812:runP (envL Tryz.prog pol [(149,scalS (sizeV 40)),(173,scalS (size16V 40)),(58,outS faultSp),(182,outS isSp)]) 2000 50 e812.1.1 e812.1.2=some e812.2:=by kernel_rfl
theorem r813:runP (envL Tryz.prog pol [(149,scalS (sizeV 40)),(173,scalS (size16V 40)),(58,outS faultSp),(182,outS isSp)]) 2000 50 e813.1.1 e813.1.2=some e813.2:=by kernel_rfl
theorem r825:runP (envL Tryz.prog pol [(50,peekS [e824]),(149,scalS (sizeV 40)),(173,scalS (size16V 40)),(58,outS faultSp),(182,outS isSp)]) 2000 50 e825.1.1 e825.1.2=some e825.2:=by kernel_rfl
theorem r853:runP (envL Tryz.prog pol [(149,scalS (sizeV 40)),(173,scalS (size16V 40)),(58,outS faultSp),(182,outS isSp)]) 2000 50 e853.1.1 e853.1.2=some e853.2:=by kernel_rfl
theorem r854:runP (envL Tryz.prog pol [(149,scalS (sizeV 40)),(173,scalS (size16V 40)),(58,outS faultSp),(182,outS isSp)]) 2000 50 e854.1.1 e854.1.2=some e854.2:=by kernel_rfl
theorem r867:runP (envL Tryz.prog pol [(50,peekS [e866]),(149,scalS (sizeV 40)),(173,scalS (size16V 40)),(58,outS faultSp),(182,outS isSp)]) 2000 50 e867.1.1 e867.1.2=some e867.2:=by kernel_rfl
theorem r896:runP (envL Tryz.prog pol [(149,scalS (sizeV 40)),(173,scalS (size16V 40)),(58,outS faultSp),(182,outS isSp)]) 2000 50 e896.1.1 e896.1.2=some e896.2:=by kernel_rfl
theorem r897:runP (envL Tryz.prog pol [(149,scalS (sizeV 40)),(173,scalS (size16V 40)),(58,outS faultSp),(182,outS isSp)]) 2000 50 e897.1.1 e897.1.2=some e897.2:=by kernel_rfl
theorem r911:runP (envL Tryz.prog pol [(50,peekS [e910]),(149,scalS (sizeV 40)),(173,scalS (size16V 40)),(58,outS faultSp),(182,outS isSp)]) 2000 50 e911.1.1 e911.1.2=some e911.2:=by kernel_rfl
end Go.Proofs.YtjilhkjgejnmpaaGreatDoor
