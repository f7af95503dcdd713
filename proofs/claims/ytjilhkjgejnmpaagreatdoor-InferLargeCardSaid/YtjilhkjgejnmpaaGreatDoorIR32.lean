import Derived.Test.YtjilhkjgejnmpaaGreatDoorIDb
set_option linter.all false
noncomputable section
/- Runs. -/
namespace Go.Proofs.YtjilhkjgejnmpaaGreatDoor
open Go.J
theorem r95:runP (envL Tryz.prog pol [(149,scalS (sizeV 40)),(173,scalS (size16V 40)),(58,outS faultSp),(182,outS isSp)]) 2000 64 e95.1.1 e95.1.2=some e95.2:=by kernel_rfl
theorem r96:runP (envL Tryz.prog pol [(149,scalS (sizeV 40)),(173,scalS (size16V 40)),(58,outS faultSp),(182,outS isSp)]) 2000 64 e96.1.1 e96.1.2=some e96.2:=by kernel_rfl
theorem r98:runP (envL Tryz.prog pol [(149,scalS (sizeV 40)),(173,scalS (size16V 40)),(58,outS faultSp),(182,outS isSp)]) 2000 150 e98.1.1 e98.1.2=some e98.2:=by kernel_rfl
theorem r106:runP (envL Tryz.prog pol [(50,peekS [e104,e105]),(149,scalS (sizeV 40)),(173,scalS (size16V 40)),(58,outS faultSp),(182,outS isSp)]) 2000 50 e106.1.1 e106.1.2=some e106.2:=by kernel_rfl
theorem r108:runP (envL Tryz.prog pol [(50,peekS [e107]),(149,scalS (sizeV 40)),(173,scalS (size16V 40)),(58,outS faultSp),(182,outS isSp)]) 2000 50 e108.1.1 e108.1.2=some e108.2:=by kernel_rfl
theorem r126:runP (envL Tryz.prog pol [(149,scalS (sizeV 40)),(173,scalS (size16V 40)),(58,outS faultSp),(182,outS isSp)]) 2000 64 e126.1.1 e126.1.2=some e126.2:=by kernel_rfl
theorem r127:runP (envL Tryz.prog pol [(64,peekS [e126]),(149,scalS (sizeV 40)),(173,scalS (size16V 40)),(58,outS faultSp),(182,outS isSp)]) 2000 181 e127.1.1 e127.1.2=some e127.2:=by kernel_rfl
theorem r132:runP (envL Tryz.prog pol [(149,scalS (sizeV 40)),(173,scalS (size16V 40)),(58,outS faultSp),(182,outS isSp)]) 2000 213 e132.1.1 e132.1.2=some e132.2:=by kernel_rfl
theorem r138:runP (envL Tryz.prog pol [(50,peekS [e136,e137]),(149,scalS (sizeV 40)),(173,scalS (size16V 40)),(58,outS faultSp),(182,outS isSp)]) 2000 50 e138.1.1 e138.1.2=some e138.2:=by kernel_rfl
theorem r141:runP (envL Tryz.prog pol [(50,peekS [e140]),(149,scalS (sizeV 40)),(173,scalS (size16V 40)),(58,outS faultSp),(182,outS isSp)]) 2000 50 e141.1.1 e141.1.2=some e141.2:=by kernel_rfl
theorem r153:runP (envL Tryz.prog pol [(149,scalS (sizeV 40)),(173,scalS (size16V 40)),(58,outS faultSp),(182,outS isSp)]) 2000 150 e153.1.1 e153.1.2=some e153.2:=by kernel_rfl
theorem r169:runP (envL Tryz.prog pol [(50,peekS [e167,e168]),(149,scalS (sizeV 40)),(173,scalS (size16V 40)),(58,outS faultSp),(182,outS isSp)]) 2000 50 e169.1.1 e169.1.2=some e169.2:=by kernel_rfl
theorem r173:runP (envL Tryz.prog pol [(50,peekS [e172]),(149,scalS (sizeV 40)),(173,scalS (size16V 40)),(58,outS faultSp),(182,outS isSp)]) 2000 50 e173.1.1 e173.1.2=some e173.2:=by kernel_rfl
theorem r185:runP (envL Tryz.prog pol [(149,scalS (sizeV 40)),(173,scalS (size16V 40)),(58,outS faultSp),(182,outS isSp)]) 2000 134 e185.1.1 e185.1.2=some e185.2:=by kernel_rfl
theorem r202:runP (envL Tryz.prog pol [(50,peekS [e200,e201]),(149,scalS (sizeV 40)),(173,scalS (size16V 40)),(58,outS faultSp),(182,outS isSp)]) 2000 50 e202.1.1 e202.1.2=some e202.2:=by kernel_rfl
theorem r207:runP (envL Tryz.prog pol [(50,peekS [e206]),(149,scalS (sizeV 40)),(173,scalS (size16V 40)),(58,outS faultSp),(182,outS isSp)]) 2000 50 e207.1.1 e207.1.2=some e207.2:=by kernel_rfl
theorem r220:runP (envL Tryz.prog pol [(149,scalS (sizeV 40)),(173,scalS (size16V 40)),(58,outS faultSp),(182,outS isSp)]) 2000 134 e220.1.1 e220.1.2=some e220.2:=by kernel_rfl
theorem r237:runP (envL Tryz.prog pol [(50,peekS [e235,e236]),(149,scalS (sizeV 40)),(173,scalS (size16V 40)),(58,outS faultSp),(182,outS isSp)]) 2000 50 e237.1.1 e237.1.2=some e237.2:=by kernel_rfl
theorem r243:runP (envL Tryz.prog pol [(50,peekS [e242]),(149,scalS (sizeV 40)),(173,scalS (size16V 40)),(58,outS faultSp),(182,outS isSp)]) 2000 50 e243.1.1 e243.1.2=some e243.2:=by kernel_rfl
theorem r257:runP (envL Tryz.prog pol [(149,scalS (sizeV 40)),(173,scalS (size16V 40)),(58,outS faultSp),(182,outS isSp)]) 2000 134 e257.1.1 e257.1.2=some e257.2:=by kernel_rfl
theorem r274:runP (envL Tryz.prog pol [(50,peekS [e272,e273]),(149,scalS (sizeV 40)),(173,scalS (size16V 40)),(58,outS faultSp),(182,outS isSp)]) 2000 50 e274.1.1 e274.1.2=some e274.2:=by kernel_rfl
theorem r281:runP (envL Tryz.prog pol [(50,peekS [e280]),(149,scalS (sizeV 40)),(173,scalS (size16V 40)),(58,outS faultSp),(182,outS isSp)]) 2000 50 e281.1.1 e281.1.2=some e281.2:=by kernel_rfl
theorem r313:runP (envL Tryz.prog pol [(50,peekS [e311,e312]),(149,scalS (sizeV 40)),(173,scalS (size16V 40)),(58,outS faultSp),(182,outS isSp)]) 2000 50 e313.1.1 e313.1.2=some e313.2:=by kernel_rfl
theorem r321:runP (envL Tryz.prog pol [(50,peekS [e320]),(149,scalS (sizeV 40)),(173,scalS (size16V 40)),(58,outS faultSp),(182,outS isSp)]) 2000 50 e321.1.1 e321.1.2=some e321.2:=by kernel_rfl
theorem r341:runP (envL Tryz.prog pol [(50,peekS [e339,e340]),(149,scalS (sizeV 40)),(173,scalS (size16V 40)),(58,outS faultSp),(182,outS isSp)]) 2000 50 e341.1.1 e341.1.2=some e341.2:=by kernel_rfl
theorem r350:runP (envL Tryz.prog pol [(50,peekS [e349]),(149,scalS (sizeV 40)),(173,scalS (size16V 40)),(58,outS faultSp),(182,outS isSp)]) 2000 50 e350.1.1 e350.1.2=some e350.2:=by kernel_rfl
theorem r368:runP (envL Tryz.prog pol [(50,peekS [e366,e367]),(149,scalS (sizeV 40)),(173,scalS (size16V 40)),(58,outS faultSp),(182,outS isSp)]) 2000 50 e368.1.1 e368.1.2=some e368.2:=by kernel_rfl
theorem r378:runP (envL Tryz.prog pol [(50,peekS [e377]),(149,scalS (sizeV 40)),(173,scalS (size16V 40)),(58,outS faultSp),(182,outS isSp)]) 2000 50 e378.1.1 e378.1.2=some e378.2:=by kernel_rfl
theorem r397:runP (envL Tryz.prog pol [(50,peekS [e395,e396]),(149,scalS (sizeV 40)),(173,scalS (size16V 40)),(58,outS faultSp),(182,outS isSp)]) 2000 50 e397.1.1 e397.1.2=some e397.2:=by kernel_rfl
theorem r408:runP (envL Tryz.prog pol [(50,peekS [e407]),(149,scalS (sizeV 40)),(173,scalS (size16V 40)),(58,outS faultSp),(182,outS isSp)]) 2000 50 e408.1.1 e408.1.2=some e408.2:=by kernel_rfl
theorem r428:runP (envL Tryz.prog pol [(50,peekS [e426,e427]),(149,scalS (sizeV 40)),(173,scalS (size16V 40)),(58,outS faultSp),(182,outS isSp)]) 2000 50 e428.1.1 e428.1.2=some e428.2:=by kernel_rfl
theorem r434:runP (envL Tryz.prog pol [(50,peekS [e274,e433]),(149,scalS (sizeV 40)),(173,scalS (size16V 40)),(58,outS faultSp),(182,outS isSp)]) 2000 50 e434.1.1 e434.1.2=some e434.2:=by kernel_rfl
theorem r435:runP (envL Tryz.prog pol [(50,peekS [e237,e434]),(149,scalS (sizeV 40)),(173,scalS (size16V 40)),(58,outS faultSp),(182,outS isSp)]) 2000 50 e435.1.1 e435.1.2=some e435.2:=by kernel_rfl
theorem r436:runP (envL Tryz.prog pol [(50,peekS [e202,e435]),(149,scalS (sizeV 40)),(173,scalS (size16V 40)),(58,outS faultSp),(182,outS isSp)]) 2000 50 e436.1.1 e436.1.2=some e436.2:=by kernel_rfl
theorem r437:runP (envL Tryz.prog pol [(50,peekS [e169,e436]),(149,scalS (sizeV 40)),(173,scalS (size16V 40)),(58,outS faultSp),(182,outS isSp)]) 2000 50 e437.1.1 e437.1.2=some e437.2:=by kernel_rfl
theorem r438:runP (envL Tryz.prog pol [(50,peekS [e138,e437]),(149,scalS (sizeV 40)),(173,scalS (size16V 40)),(58,outS faultSp),(182,outS isSp)]) 2000 50 e438.1.1 e438.1.2=some e438.2:=by kernel_rfl
theorem r439:runP (envL Tryz.prog pol [(50,peekS [e106,e438]),(149,scalS (sizeV 40)),(173,scalS (size16V 40)),(58,outS faultSp),(182,outS isSp)]) 2000 50 e439.1.1 e439.1.2=some e439.2:=by kernel_rfl
theorem r440:runP (envL Tryz.prog pol [(50,peekS [e439]),(149,scalS (sizeV 40)),(173,scalS (size16V 40)),(58,outS faultSp),(182,outS isSp)]) 2000 50 e440.1.1 e440.1.2=some e440.2:=by kernel_rfl
theorem r461:runP (envL Tryz.prog pol [(50,peekS [e459,e460]),(149,scalS (sizeV 40)),(173,scalS (size16V 40)),(58,outS faultSp),(182,outS isSp)]) 2000 50 e461.1.1 e461.1.2=some e461.2:=by kernel_rfl
theorem r462:runP (envL Tryz.prog pol [(50,peekS [e458,e461]),(149,scalS (sizeV 40)),(173,scalS (size16V 40)),(58,outS faultSp),(182,outS isSp)]) 2000 50 e462.1.1 e462.1.2=some e462.2:=by kernel_rfl
theorem r463:runP (envL Tryz.prog pol [(50,peekS [e428,e462]),(149,scalS (sizeV 40)),(173,scalS (size16V 40)),(58,outS faultSp),(182,outS isSp)]) 2000 50 e463.1.1 e463.1.2=some e463.2:=by kernel_rfl
theorem r464:runP (envL Tryz.prog pol [(50,peekS [e397,e463]),(149,scalS (sizeV 40)),(173,scalS (size16V 40)),(58,outS faultSp),(182,outS isSp)]) 2000 50 e464.1.1 e464.1.2=some e464.2:=by kernel_rfl
theorem r465:runP (envL Tryz.prog pol [(50,peekS [e368,e464]),(149,scalS (sizeV 40)),(173,scalS (size16V 40)),(58,outS faultSp),(182,outS isSp)]) 2000 50 e465.1.1 e465.1.2=some e465.2:=by kernel_rfl
theorem r466:runP (envL Tryz.prog pol [(50,peekS [e341,e465]),(149,scalS (sizeV 40)),(173,scalS (size16V 40)),(58,outS faultSp),(182,outS isSp)]) 2000 50 e466.1.1 e466.1.2=some e466.2:=by kernel_rfl
theorem r467:runP (envL Tryz.prog pol [(50,peekS [e313,e466]),(149,scalS (sizeV 40)),(173,scalS (size16V 40)),(58,outS faultSp),(182,outS isSp)]) 2000 50 e467.1.1 e467.1.2=some e467.2:=by kernel_rfl
theorem r468:runP (envL Tryz.prog pol [(50,peekS [e274,e467]),(149,scalS (sizeV 40)),(173,scalS (size16V 40)),(58,outS faultSp),(182,outS isSp)]) 2000 50 e468.1.1 e468.1.2=some e468.2:=by kernel_rfl
theorem r469:runP (envL Tryz.prog pol [(50,peekS [e237,e468]),(149,scalS (sizeV 40)),(173,scalS (size16V 40)),(58,outS faultSp),(182,outS isSp)]) 2000 50 e469.1.1 e469.1.2=some e469.2:=by kernel_rfl
theorem r470:runP (envL Tryz.prog pol [(50,peekS [e202,e469]),(149,scalS (sizeV 40)),(173,scalS (size16V 40)),(58,outS faultSp),(182,outS isSp)]) 2000 50 e470.1.1 e470.1.2=some e470.2:=by kernel_rfl
theorem r471:runP (envL Tryz.prog pol [(50,peekS [e169,e470]),(149,scalS (sizeV 40)),(173,scalS (size16V 40)),(58,outS faultSp),(182,outS isSp)]) 2000 50 e471.1.1 e471.1.2=some e471.2:=by kernel_rfl
theorem r472:runP (envL Tryz.prog pol [(50,peekS [e138,e471]),(149,scalS (sizeV 40)),(173,scalS (size16V 40)),(58,outS faultSp),(182,outS isSp)]) 2000 50 e472.1.1 e472.1.2=some e472.2:=by kernel_rfl
theorem r473:runP (envL Tryz.prog pol [(50,peekS [e106,e472]),(149,scalS (sizeV 40)),(173,scalS (size16V 40)),(58,outS faultSp),(182,outS isSp)]) 2000 50 e473.1.1 e473.1.2=some e473.2:=by kernel_rfl
theorem r474:runP (envL Tryz.prog pol [(50,peekS [e473]),(149,scalS (sizeV 40)),(173,scalS (size16V 40)),(58,outS faultSp),(182,outS isSp)]) 2000 50 e474.1.1 e474.1.2=some e474.2:=by kernel_rfl
theorem r496:runP (envL Tryz.prog pol [(50,peekS [e494,e495]),(149,scalS (sizeV 40)),(173,scalS (size16V 40)),(58,outS faultSp),(182,outS isSp)]) 2000 50 e496.1.1 e496.1.2=some e496.2:=by kernel_rfl
theorem r497:runP (envL Tryz.prog pol [(50,peekS [e493,e496]),(149,scalS (sizeV 40)),(173,scalS (size16V 40)),(58,outS faultSp),(182,outS isSp)]) 2000 50 e497.1.1 e497.1.2=some e497.2:=by kernel_rfl
theorem r498:runP (envL Tryz.prog pol [(50,peekS [e461,e497]),(149,scalS (sizeV 40)),(173,scalS (size16V 40)),(58,outS faultSp),(182,outS isSp)]) 2000 50 e498.1.1 e498.1.2=some e498.2:=by kernel_rfl
theorem r499:runP (envL Tryz.prog pol [(50,peekS [e428,e498]),(149,scalS (sizeV 40)),(173,scalS (size16V 40)),(58,outS faultSp),(182,outS isSp)]) 2000 50 e499.1.1 e499.1.2=some e499.2:=by kernel_rfl
theorem r500:runP (envL Tryz.prog pol [(50,peekS [e397,e499]),(149,scalS (sizeV 40)),(173,scalS (size16V 40)),(58,outS faultSp),(182,outS isSp)]) 2000 50 e500.1.1 e500.1.2=some e500.2:=by kernel_rfl
theorem r501:runP (envL Tryz.prog pol [(50,peekS [e368,e500]),(149,scalS (sizeV 40)),(173,scalS (size16V 40)),(58,outS faultSp),(182,outS isSp)]) 2000 50 e501.1.1 e501.1.2=some e501.2:=by kernel_rfl
theorem r502:runP (envL Tryz.prog pol [(50,peekS [e341,e501]),(149,scalS (sizeV 40)),(173,scalS (size16V 40)),(58,outS faultSp),(182,outS isSp)]) 2000 50 e502.1.1 e502.1.2=some e502.2:=by kernel_rfl
theorem r503:runP (envL Tryz.prog pol [(50,peekS [e313,e502]),(149,scalS (sizeV 40)),(173,scalS (size16V 40)),(58,outS faultSp),(182,outS isSp)]) 2000 50 e503.1.1 e503.1.2=some e503.2:=by kernel_rfl
theorem r504:runP (envL Tryz.prog pol [(50,peekS [e274,e503]),(149,scalS (sizeV 40)),(173,scalS (size16V 40)),(58,outS faultSp),(182,outS isSp)]) 2000 50 e504.1.1 e504.1.2=some e504.2:=by kernel_rfl
theorem r505:runP (envL Tryz.prog pol [(50,peekS [e237,e504]),(149,scalS (sizeV 40)),(173,scalS (size16V 40)),(58,outS faultSp),(182,outS isSp)]) 2000 50 e505.1.1 e505.1.2=some e505.2:=by kernel_rfl
theorem r506:runP (envL Tryz.prog pol [(50,peekS [e202,e505]),(149,scalS (sizeV 40)),(173,scalS (size16V 40)),(58,outS faultSp),(182,outS isSp)]) 2000 50 e506.1.1 e506.1.2=some e506.2:=by kernel_rfl
theorem r507:runP (envL Tryz.prog pol [(50,peekS [e169,e506]),(149,scalS (sizeV 40)),(173,scalS (size16V 40)),(58,outS faultSp),(182,outS isSp)]) 2000 50 e507.1.1 e507.1.2=some e507.2:=by kernel_rfl
theorem r508:runP (envL Tryz.prog pol [(50,peekS [e138,e507]),(149,scalS (sizeV 40)),(173,scalS (size16V 40)),(58,outS faultSp),(182,outS isSp)]) 2000 50 e508.1.1 e508.1.2=some e508.2:=by kernel_rfl
theorem r509:runP (envL Tryz.prog pol [(50,peekS [e106,e508]),(149,scalS (sizeV 40)),(173,scalS (size16V 40)),(58,outS faultSp),(182,outS isSp)]) 2000 50 e509.1.1 e509.1.2=some e509.2:=by kernel_rfl
theorem r537:runP (envL Tryz.prog pol [(50,peekS [e535,e536]),(149,scalS (sizeV 40)),(173,scalS (size16V 40)),(58,outS faultSp),(182,outS isSp)]) 2000 50 e537.1.1 e537.1.2=some e537.2:=by kernel_rfl
theorem r547:runP (envL Tryz.prog pol [(50,peekS [e105,e546]),(149,scalS (sizeV 40)),(173,scalS (size16V 40)),(58,outS faultSp),(182,outS isSp)]) 2000 50 e547.1.1 e547.1.2=some e547.2:=by kernel_rfl
theorem r548:runP (envL Tryz.prog pol [(50,peekS [e536,e547]),(149,scalS (sizeV 40)),(173,scalS (size16V 40)),(58,outS faultSp),(182,outS isSp)]) 2000 50 e548.1.1 e548.1.2=some e548.2:=by kernel_rfl
theorem r563:runP (envL Tryz.prog pol [(50,peekS [e561,e562]),(149,scalS (sizeV 40)),(173,scalS (size16V 40)),(58,outS faultSp),(182,outS isSp)]) 2000 50 e563.1.1 e563.1.2=some e563.2:=by kernel_rfl
theorem r564:runP (envL Tryz.prog pol [(50,peekS [e546,e563]),(149,scalS (sizeV 40)),(173,scalS (size16V 40)),(58,outS faultSp),(182,outS isSp)]) 2000 50 e564.1.1 e564.1.2=some e564.2:=by kernel_rfl
theorem r565:runP (envL Tryz.prog pol [(50,peekS [e536,e564]),(149,scalS (sizeV 40)),(173,scalS (size16V 40)),(58,outS faultSp),(182,outS isSp)]) 2000 50 e565.1.1 e565.1.2=some e565.2:=by kernel_rfl
theorem r583:runP (envL Tryz.prog pol [(50,peekS [e581,e582]),(149,scalS (sizeV 40)),(173,scalS (size16V 40)),(58,outS faultSp),(182,outS isSp)]) 2000 50 e583.1.1 e583.1.2=some e583.2:=by kernel_rfl
theorem r584:runP (envL Tryz.prog pol [(50,peekS [e561,e583]),(149,scalS (sizeV 40)),(173,scalS (size16V 40)),(58,outS faultSp),(182,outS isSp)]) 2000 50 e584.1.1 e584.1.2=some e584.2:=by kernel_rfl
theorem r585:runP (envL Tryz.prog pol [(50,peekS [e546,e584]),(149,scalS (sizeV 40)),(173,scalS (size16V 40)),(58,outS faultSp),(182,outS isSp)]) 2000 50 e585.1.1 e585.1.2=some e585.2:=by kernel_rfl
theorem r586:runP (envL Tryz.prog pol [(50,peekS [e536,e585]),(149,scalS (sizeV 40)),(173,scalS (size16V 40)),(58,outS faultSp),(182,outS isSp)]) 2000 50 e586.1.1 e586.1.2=some e586.2:=by kernel_rfl
theorem r608:runP (envL Tryz.prog pol [(50,peekS [e606,e607]),(149,scalS (sizeV 40)),(173,scalS (size16V 40)),(58,outS faultSp),(182,outS isSp)]) 2000 50 e608.1.1 e608.1.2=some e608.2:=by kernel_rfl
theorem r609:runP (envL Tryz.prog pol [(50,peekS [e581,e608]),(149,scalS (sizeV 40)),(173,scalS (size16V 40)),(58,outS faultSp),(182,outS isSp)]) 2000 50 e609.1.1 e609.1.2=some e609.2:=by kernel_rfl
theorem r610:runP (envL Tryz.prog pol [(50,peekS [e561,e609]),(149,scalS (sizeV 40)),(173,scalS (size16V 40)),(58,outS faultSp),(182,outS isSp)]) 2000 50 e610.1.1 e610.1.2=some e610.2:=by kernel_rfl
theorem r611:runP (envL Tryz.prog pol [(50,peekS [e546,e610]),(149,scalS (sizeV 40)),(173,scalS (size16V 40)),(58,outS faultSp),(182,outS isSp)]) 2000 50 e611.1.1 e611.1.2=some e611.2:=by kernel_rfl
theorem r612:runP (envL Tryz.prog pol [(50,peekS [e536,e611]),(149,scalS (sizeV 40)),(173,scalS (size16V 40)),(58,outS faultSp),(182,outS isSp)]) 2000 50 e612.1.1 e612.1.2=some e612.2:=by kernel_rfl
theorem r636:runP (envL Tryz.prog pol [(50,peekS [e634,e635]),(149,scalS (sizeV 40)),(173,scalS (size16V 40)),(58,outS faultSp),(182,outS isSp)]) 2000 50 e636.1.1 e636.1.2=some e636.2:=by kernel_rfl
theorem r637:runP (envL Tryz.prog pol [(50,peekS [e606,e636]),(149,scalS (sizeV 40)),(173,scalS (size16V 40)),(58,outS faultSp),(182,outS isSp)]) 2000 50 e637.1.1 e637.1.2=some e637.2:=by kernel_rfl
theorem r638:runP (envL Tryz.prog pol [(50,peekS [e581,e637]),(149,scalS (sizeV 40)),(173,scalS (size16V 40)),(58,outS faultSp),(182,outS isSp)]) 2000 50 e638.1.1 e638.1.2=some e638.2:=by kernel_rfl
theorem r639:runP (envL Tryz.prog pol [(50,peekS [e561,e638]),(149,scalS (sizeV 40)),(173,scalS (size16V 40)),(58,outS faultSp),(182,outS isSp)]) 2000 50 e639.1.1 e639.1.2=some e639.2:=by kernel_rfl
theorem r640:runP (envL Tryz.prog pol [(50,peekS [e546,e639]),(149,scalS (sizeV 40)),(173,scalS (size16V 40)),(58,outS faultSp),(182,outS isSp)]) 2000 50 e640.1.1 e640.1.2=some e640.2:=by kernel_rfl
theorem r641:runP (envL Tryz.prog pol [(50,peekS [e536,e640]),(149,scalS (sizeV 40)),(173,scalS (size16V 40)),(58,outS faultSp),(182,outS isSp)]) 2000 50 e641.1.1 e641.1.2=some e641.2:=by kernel_rfl
theorem r669:runP (envL Tryz.prog pol [(50,peekS [e667,e668]),(149,scalS (sizeV 40)),(173,scalS (size16V 40)),(58,outS faultSp),(182,outS isSp)]) 2000 50 e669.1.1 e669.1.2=some e669.2:=by kernel_rfl
theorem r670:runP (envL Tryz.prog pol [(50,peekS [e634,e669]),(149,scalS (sizeV 40)),(173,scalS (size16V 40)),(58,outS faultSp),(182,outS isSp)]) 2000 50 e670.1.1 e670.1.2=some e670.2:=by kernel_rfl
theorem r671:runP (envL Tryz.prog pol [(50,peekS [e606,e670]),(149,scalS (sizeV 40)),(173,scalS (size16V 40)),(58,outS faultSp),(182,outS isSp)]) 2000 50 e671.1.1 e671.1.2=some e671.2:=by kernel_rfl
theorem r672:runP (envL Tryz.prog pol [(50,peekS [e581,e671]),(149,scalS (sizeV 40)),(173,scalS (size16V 40)),(58,outS faultSp),(182,outS isSp)]) 2000 50 e672.1.1 e672.1.2=some e672.2:=by kernel_rfl
theorem r673:runP (envL Tryz.prog pol [(50,peekS [e561,e672]),(149,scalS (sizeV 40)),(173,scalS (size16V 40)),(58,outS faultSp),(182,outS isSp)]) 2000 50 e673.1.1 e673.1.2=some e673.2:=by kernel_rfl
theorem r674:runP (envL Tryz.prog pol [(50,peekS [e546,e673]),(149,scalS (sizeV 40)),(173,scalS (size16V 40)),(58,outS faultSp),(182,outS isSp)]) 2000 50 e674.1.1 e674.1.2=some e674.2:=by kernel_rfl
theorem r675:runP (envL Tryz.prog pol [(50,peekS [e536,e674]),(149,scalS (sizeV 40)),(173,scalS (size16V 40)),(58,outS faultSp),(182,outS isSp)]) 2000 50 e675.1.1 e675.1.2=some e675.2:=by kernel_rfl
theorem r701:runP (envL Tryz.prog pol [(50,peekS [e699,e700]),(149,scalS (sizeV 40)),(173,scalS (size16V 40)),(58,outS faultSp),(182,outS isSp)]) 2000 50 e701.1.1 e701.1.2=some e701.2:=by kernel_rfl
theorem r702:runP (envL Tryz.prog pol [(50,peekS [e667,e701]),(149,scalS (sizeV 40)),(173,scalS (size16V 40)),(58,outS faultSp),(182,outS isSp)]) 2000 50 e702.1.1 e702.1.2=some e702.2:=by kernel_rfl
theorem r703:runP (envL Tryz.prog pol [(50,peekS [e634,e702]),(149,scalS (sizeV 40)),(173,scalS (size16V 40)),(58,outS faultSp),(182,outS isSp)]) 2000 50 e703.1.1 e703.1.2=some e703.2:=by kernel_rfl
theorem r704:runP (envL Tryz.prog pol [(50,peekS [e606,e703]),(149,scalS (sizeV 40)),(173,scalS (size16V 40)),(58,outS faultSp),(182,outS isSp)]) 2000 50 e704.1.1 e704.1.2=some e704.2:=by kernel_rfl
theorem r705:runP (envL Tryz.prog pol [(50,peekS [e581,e704]),(149,scalS (sizeV 40)),(173,scalS (size16V 40)),(58,outS faultSp),(182,outS isSp)]) 2000 50 e705.1.1 e705.1.2=some e705.2:=by kernel_rfl
theorem r706:runP (envL Tryz.prog pol [(50,peekS [e561,e705]),(149,scalS (sizeV 40)),(173,scalS (size16V 40)),(58,outS faultSp),(182,outS isSp)]) 2000 50 e706.1.1 e706.1.2=some e706.2:=by kernel_rfl
theorem r707:runP (envL Tryz.prog pol [(50,peekS [e546,e706]),(149,scalS (sizeV 40)),(173,scalS (size16V 40)),(58,outS faultSp),(182,outS isSp)]) 2000 50 e707.1.1 e707.1.2=some e707.2:=by kernel_rfl
theorem r708:runP (envL Tryz.prog pol [(50,peekS [e536,e707]),(149,scalS (sizeV 40)),(173,scalS (size16V 40)),(58,outS faultSp),(182,outS isSp)]) 2000 50 e708.1.1 e708.1.2=some e708.2:=by kernel_rfl
theorem r737:runP (envL Tryz.prog pol [(50,peekS [e735,e736]),(149,scalS (sizeV 40)),(173,scalS (size16V 40)),(58,outS faultSp),(182,outS isSp)]) 2000 50 e737.1.1 e737.1.2=some e737.2:=by kernel_rfl
theorem r738:runP (envL Tryz.prog pol [(50,peekS [e699,e737]),(149,scalS (sizeV 40)),(173,scalS (size16V 40)),(58,outS faultSp),(182,outS isSp)]) 2000 50 e738.1.1 e738.1.2=some e738.2:=by kernel_rfl
theorem r739:runP (envL Tryz.prog pol [(50,peekS [e667,e738]),(149,scalS (sizeV 40)),(173,scalS (size16V 40)),(58,outS faultSp),(182,outS isSp)]) 2000 50 e739.1.1 e739.1.2=some e739.2:=by kernel_rfl
theorem r740:runP (envL Tryz.prog pol [(50,peekS [e634,e739]),(149,scalS (sizeV 40)),(173,scalS (size16V 40)),(58,outS faultSp),(182,outS isSp)]) 2000 50 e740.1.1 e740.1.2=some e740.2:=by kernel_rfl
theorem r741:runP (envL Tryz.prog pol [(50,peekS [e606,e740]),(149,scalS (sizeV 40)),(173,scalS (size16V 40)),(58,outS faultSp),(182,outS isSp)]) 2000 50 e741.1.1 e741.1.2=some e741.2:=by kernel_rfl
theorem r742:runP (envL Tryz.prog pol [(50,peekS [e581,e741]),(149,scalS (sizeV 40)),(173,scalS (size16V 40)),(58,outS faultSp),(182,outS isSp)]) 2000 50 e742.1.1 e742.1.2=some e742.2:=by kernel_rfl
theorem r743:runP (envL Tryz.prog pol [(50,peekS [e561,e742]),(149,scalS (sizeV 40)),(173,scalS (size16V 40)),(58,outS faultSp),(182,outS isSp)]) 2000 50 e743.1.1 e743.1.2=some e743.2:=by kernel_rfl
theorem r744:runP (envL Tryz.prog pol [(50,peekS [e546,e743]),(149,scalS (sizeV 40)),(173,scalS (size16V 40)),(58,outS faultSp),(182,outS isSp)]) 2000 50 e744.1.1 e744.1.2=some e744.2:=by kernel_rfl
theorem r745:runP (envL Tryz.prog pol [(50,peekS [e536,e744]),(149,scalS (sizeV 40)),(173,scalS (size16V 40)),(58,outS faultSp),(182,outS isSp)]) 2000 50 e745.1.1 e745.1.2=some e745.2:=by kernel_rfl
theorem r774:runP (envL Tryz.prog pol [(50,peekS [e772,e773]),(149,scalS (sizeV 40)),(173,scalS (size16V 40)),(58,outS faultSp),(182,outS isSp)]) 2000 50 e774.1.1 e774.1.2=some e774.2:=by kernel_rfl
theorem r775:runP (envL Tryz.prog pol [(50,peekS [e735,e774]),(149,scalS (sizeV 40)),(173,scalS (size16V 40)),(58,outS faultSp),(182,outS isSp)]) 2000 50 e775.1.1 e775.1.2=some e775.2:=by kernel_rfl
theorem r776:runP (envL Tryz.prog pol [(50,peekS [e699,e775]),(149,scalS (sizeV 40)),(173,scalS (size16V 40)),(58,outS faultSp),(182,outS isSp)]) 2000 50 e776.1.1 e776.1.2=some e776.2:=by kernel_rfl
theorem r777:runP (envL Tryz.prog pol [(50,peekS [e667,e776]),(149,scalS (sizeV 40)),(173,scalS (size16V 40)),(58,outS faultSp),(182,outS isSp)]) 2000 50 e777.1.1 e777.1.2=some e777.2:=by kernel_rfl
theorem r778:runP (envL Tryz.prog pol [(50,peekS [e634,e777]),(149,scalS (sizeV 40)),(173,scalS (size16V 40)),(58,outS faultSp),(182,outS isSp)]) 2000 50 e778.1.1 e778.1.2=some e778.2:=by kernel_rfl
theorem r779:runP (envL Tryz.prog pol [(50,peekS [e606,e778]),(149,scalS (sizeV 40)),(173,scalS (size16V 40)),(58,outS faultSp),(182,outS isSp)]) 2000 50 e779.1.1 e779.1.2=some e779.2:=by kernel_rfl
theorem r780:runP (envL Tryz.prog pol [(50,peekS [e581,e779]),(149,scalS (sizeV 40)),(173,scalS (size16V 40)),(58,outS faultSp),(182,outS isSp)]) 2000 50 e780.1.1 e780.1.2=some e780.2:=by kernel_rfl
theorem r781:runP (envL Tryz.prog pol [(50,peekS [e561,e780]),(149,scalS (sizeV 40)),(173,scalS (size16V 40)),(58,outS faultSp),(182,outS isSp)]) 2000 50 e781.1.1 e781.1.2=some e781.2:=by kernel_rfl
theorem r782:runP (envL Tryz.prog pol [(50,peekS [e546,e781]),(149,scalS (sizeV 40)),(173,scalS (size16V 40)),(58,outS faultSp),(182,outS isSp)]) 2000 50 e782.1.1 e782.1.2=some e782.2:=by kernel_rfl
theorem r783:runP (envL Tryz.prog pol [(50,peekS [e536,e782]),(149,scalS (sizeV 40)),(173,scalS (size16V 40)),(58,outS faultSp),(182,outS isSp)]) 2000 50 e783.1.1 e783.1.2=some e783.2:=by kernel_rfl
theorem r814:runP (envL Tryz.prog pol [(50,peekS [e812,e813]),(149,scalS (sizeV 40)),(173,scalS (size16V 40)),(58,outS faultSp),(182,outS isSp)]) 2000 50 e814.1.1 e814.1.2=some e814.2:=by kernel_rfl
theorem r815:runP (envL Tryz.prog pol [(50,peekS [e772,e814]),(149,scalS (sizeV 40)),(173,scalS (size16V 40)),(58,outS faultSp),(182,outS isSp)]) 2000 50 e815.1.1 e815.1.2=some e815.2:=by kernel_rfl
theorem r816:runP (envL Tryz.prog pol [(50,peekS [e735,e815]),(149,scalS (sizeV 40)),(173,scalS (size16V 40)),(58,outS faultSp),(182,outS isSp)]) 2000 50 e816.1.1 e816.1.2=some e816.2:=by kernel_rfl
theorem r817:runP (envL Tryz.prog pol [(50,peekS [e699,e816]),(149,scalS (sizeV 40)),(173,scalS (size16V 40)),(58,outS faultSp),(182,outS isSp)]) 2000 50 e817.1.1 e817.1.2=some e817.2:=by kernel_rfl
theorem r818:runP (envL Tryz.prog pol [(50,peekS [e667,e817]),(149,scalS (sizeV 40)),(173,scalS (size16V 40)),(58,outS faultSp),(182,outS isSp)]) 2000 50 e818.1.1 e818.1.2=some e818.2:=by kernel_rfl
theorem r819:runP (envL Tryz.prog pol [(50,peekS [e634,e818]),(149,scalS (sizeV 40)),(173,scalS (size16V 40)),(58,outS faultSp),(182,outS isSp)]) 2000 50 e819.1.1 e819.1.2=some e819.2:=by kernel_rfl
theorem r820:runP (envL Tryz.prog pol [(50,peekS [e606,e819]),(149,scalS (sizeV 40)),(173,scalS (size16V 40)),(58,outS faultSp),(182,outS isSp)]) 2000 50 e820.1.1 e820.1.2=some e820.2:=by kernel_rfl
theorem r821:runP (envL Tryz.prog pol [(50,peekS [e581,e820]),(149,scalS (sizeV 40)),(173,scalS (size16V 40)),(58,outS faultSp),(182,outS isSp)]) 2000 50 e821.1.1 e821.1.2=some e821.2:=by kernel_rfl
theorem r822:runP (envL Tryz.prog pol [(50,peekS [e561,e821]),(149,scalS (sizeV 40)),(173,scalS (size16V 40)),(58,outS faultSp),(182,outS isSp)]) 2000 50 e822.1.1 e822.1.2=some e822.2:=by kernel_rfl
theorem r823:runP (envL Tryz.prog pol [(50,peekS [e546,e822]),(149,scalS (sizeV 40)),(173,scalS (size16V 40)),(58,outS faultSp),(182,outS isSp)]) 2000 50 e823.1.1 e823.1.2=some e823.2:=by kernel_rfl
theorem r824:runP (envL Tryz.prog pol [(50,peekS [e536,e823]),(149,scalS (sizeV 40)),(173,scalS (size16V 40)),(58,outS faultSp),(182,outS isSp)]) 2000 50 e824.1.1 e824.1.2=some e824.2:=by kernel_rfl
theorem r855:runP (envL Tryz.prog pol [(50,peekS [e853,e854]),(149,scalS (sizeV 40)),(173,scalS (size16V 40)),(58,outS faultSp),(182,outS isSp)]) 2000 50 e855.1.1 e855.1.2=some e855.2:=by kernel_rfl
theorem r856:runP (envL Tryz.prog pol [(50,peekS [e812,e855]),(149,scalS (sizeV 40)),(173,scalS (size16V 40)),(58,outS faultSp),(182,outS isSp)]) 2000 50 e856.1.1 e856.1.2=some e856.2:=by kernel_rfl
theorem r857:runP (envL Tryz.prog pol [(50,peekS [e772,e856]),(149,scalS (sizeV 40)),(173,scalS (size16V 40)),(58,outS faultSp),(182,outS isSp)]) 2000 50 e857.1.1 e857.1.2=some e857.2:=by kernel_rfl
theorem r858:runP (envL Tryz.prog pol [(50,peekS [e735,e857]),(149,scalS (sizeV 40)),(173,scalS (size16V 40)),(58,outS faultSp),(182,outS isSp)]) 2000 50 e858.1.1 e858.1.2=some e858.2:=by kernel_rfl
theorem r859:runP (envL Tryz.prog pol [(50,peekS [e699,e858]),(149,scalS (sizeV 40)),(173,scalS (size16V 40)),(58,outS faultSp),(182,outS isSp)]) 2000 50 e859.1.1 e859.1.2=some e859.2:=by kernel_rfl
theorem r860:runP (envL Tryz.prog pol [(50,peekS [e667,e859]),(149,scalS (sizeV 40)),(173,scalS (size16V 40)),(58,outS faultSp),(182,outS isSp)]) 2000 50 e860.1.1 e860.1.2=some e860.2:=by kernel_rfl
theorem r861:runP (envL Tryz.prog pol [(50,peekS [e634,e860]),(149,scalS (sizeV 40)),(173,scalS (size16V 40)),(58,outS faultSp),(182,outS isSp)]) 2000 50 e861.1.1 e861.1.2=some e861.2:=by kernel_rfl
theorem r862:runP (envL Tryz.prog pol [(50,peekS [e606,e861]),(149,scalS (sizeV 40)),(173,scalS (size16V 40)),(58,outS faultSp),(182,outS isSp)]) 2000 50 e862.1.1 e862.1.2=some e862.2:=by kernel_rfl
theorem r863:runP (envL Tryz.prog pol [(50,peekS [e581,e862]),(149,scalS (sizeV 40)),(173,scalS (size16V 40)),(58,outS faultSp),(182,outS isSp)]) 2000 50 e863.1.1 e863.1.2=some e863.2:=by kernel_rfl
theorem r864:runP (envL Tryz.prog pol [(50,peekS [e561,e863]),(149,scalS (sizeV 40)),(173,scalS (size16V 40)),(58,outS faultSp),(182,outS isSp)]) 2000 50 e864.1.1 e864.1.2=some e864.2:=by kernel_rfl
theorem r865:runP (envL Tryz.prog pol [(50,peekS [e546,e864]),(149,scalS (sizeV 40)),(173,scalS (size16V 40)),(58,outS faultSp),(182,outS isSp)]) 2000 50 e865.1.1 e865.1.2=some e865.2:=by kernel_rfl
theorem r866:runP (envL Tryz.prog pol [(50,peekS [e536,e865]),(149,scalS (sizeV 40)),(173,scalS (size16V 40)),(58,outS faultSp),(182,outS isSp)]) 2000 50 e866.1.1 e866.1.2=some e866.2:=by kernel_rfl
theorem r898:runP (envL Tryz.prog pol [(50,peekS [e896,e897]),(149,scalS (sizeV 40)),(173,scalS (size16V 40)),(58,outS faultSp),(182,outS isSp)]) 2000 50 e898.1.1 e898.1.2=some e898.2:=by kernel_rfl
theorem r899:runP (envL Tryz.prog pol [(50,peekS [e853,e898]),(149,scalS (sizeV 40)),(173,scalS (size16V 40)),(58,outS faultSp),(182,outS isSp)]) 2000 50 e899.1.1 e899.1.2=some e899.2:=by kernel_rfl
theorem r900:runP (envL Tryz.prog pol [(50,peekS [e812,e899]),(149,scalS (sizeV 40)),(173,scalS (size16V 40)),(58,outS faultSp),(182,outS isSp)]) 2000 50 e900.1.1 e900.1.2=some e900.2:=by kernel_rfl
theorem r901:runP (envL Tryz.prog pol [(50,peekS [e772,e900]),(149,scalS (sizeV 40)),(173,scalS (size16V 40)),(58,outS faultSp),(182,outS isSp)]) 2000 50 e901.1.1 e901.1.2=some e901.2:=by kernel_rfl
theorem r902:runP (envL Tryz.prog pol [(50,peekS [e735,e901]),(149,scalS (sizeV 40)),(173,scalS (size16V 40)),(58,outS faultSp),(182,outS isSp)]) 2000 50 e902.1.1 e902.1.2=some e902.2:=by kernel_rfl
theorem r903:runP (envL Tryz.prog pol [(50,peekS [e699,e902]),(149,scalS (sizeV 40)),(173,scalS (size16V 40)),(58,outS faultSp),(182,outS isSp)]) 2000 50 e903.1.1 e903.1.2=some e903.2:=by kernel_rfl
theorem r904:runP (envL Tryz.prog pol [(50,peekS [e667,e903]),(149,scalS (sizeV 40)),(173,scalS (size16V 40)),(58,outS faultSp),(182,outS isSp)]) 2000 50 e904.1.1 e904.1.2=some e904.2:=by kernel_rfl
theorem r905:runP (envL Tryz.prog pol [(50,peekS [e634,e904]),(149,scalS (sizeV 40)),(173,scalS (size16V 40)),(58,outS faultSp),(182,outS isSp)]) 2000 50 e905.1.1 e905.1.2=some e905.2:=by kernel_rfl
theorem r906:runP (envL Tryz.prog pol [(50,peekS [e606,e905]),(149,scalS (sizeV 40)),(173,scalS (size16V 40)),(58,outS faultSp),(182,outS isSp)]) 2000 50 e906.1.1 e906.1.2=some e906.2:=by kernel_rfl
theorem r907:runP (envL Tryz.prog pol [(50,peekS [e581,e906]),(149,scalS (sizeV 40)),(173,scalS (size16V 40)),(58,outS faultSp),(182,outS isSp)]) 2000 50 e907.1.1 e907.1.2=some e907.2:=by kernel_rfl
theorem r908:runP (envL Tryz.prog pol [(50,peekS [e561,e907]),(149,scalS (sizeV 40)),(173,scalS (size16V 40)),(58,outS faultSp),(182,outS isSp)]) 2000 50 e908.1.1 e908.1.2=some e908.2:=by kernel_rfl
theorem r909:runP (envL Tryz.prog pol [(50,peekS [e546,e908]),(149,scalS (sizeV 40)),(173,scalS (size16V 40)),(58,outS faultSp),(182,outS isSp)]) 2000 50 e909.1.1 e909.1.2=some e909.2:=by kernel_rfl
theorem r910:runP (envL Tryz.prog pol [(50,peekS [e536,e909]),(149,scalS (sizeV 40)),(173,scalS (size16V 40)),(58,outS faultSp),(182,outS isSp)]) 2000 50 e910.1.1 e910.1.2=some e910.2:=by kernel_rfl
theorem r955:runP (envL Tryz.prog pol [(169,peekS [e954]),(149,scalS (sizeV 40)),(173,scalS (size16V 40)),(58,outS faultSp),(182,outS isSp)]) 2000 171 e955.1.1 e955.1.2=some e955.2:=by kernel_rfl
end Go.Proofs.YtjilhkjgejnmpaaGreatDoor
