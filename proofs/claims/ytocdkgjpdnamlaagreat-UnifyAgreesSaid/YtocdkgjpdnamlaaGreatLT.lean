import Derived.Test.YtocdkgjpdnamlaaGreatJH
import Derived.Test.YtocdkgjpdnamlaaGreatRows
set_option linter.all false
noncomputable section
namespace Go.Proofs.YtocdkgjpdnamlaaGreat
open Go.J
def I3:TI:=(ti Tryz.prog 3).getD ⟨.bool,0,0,[],false⟩
@[simp] theorem ti3:ti Tryz.prog 3=some I3:=by kernel_rfl
@[simp] theorem si3:I3.size=1:=by kernel_rfl
@[simp] theorem by3:I3.bytes=8:=by kernel_rfl
@[simp] theorem ze3:I3.zero=[.int .i64 0]:=by kernel_rfl
@[simp] theorem za3:I3.lF=false:=by kernel_rfl
@[simp] theorem de3:I3.desc=.int .i64:=by kernel_rfl
def I4:TI:=(ti Tryz.prog 4).getD ⟨.bool,0,0,[],false⟩
@[simp] theorem ti4:ti Tryz.prog 4=some I4:=by kernel_rfl
@[simp] theorem si4:I4.size=1:=by kernel_rfl
@[simp] theorem by4:I4.bytes=1:=by kernel_rfl
@[simp] theorem ze4:I4.zero=[.bool false]:=by kernel_rfl
@[simp] theorem za4:I4.lF=false:=by kernel_rfl
@[simp] theorem de4:I4.desc=.bool:=by kernel_rfl
def I5:TI:=(ti Tryz.prog 5).getD ⟨.bool,0,0,[],false⟩
@[simp] theorem ti5:ti Tryz.prog 5=some I5:=by kernel_rfl
@[simp] theorem si5:I5.size=1:=by kernel_rfl
@[simp] theorem by5:I5.bytes=1:=by kernel_rfl
@[simp] theorem ze5:I5.zero=[.int .u8 0]:=by kernel_rfl
@[simp] theorem za5:I5.lF=false:=by kernel_rfl
@[simp] theorem de5:I5.desc=.int .u8:=by kernel_rfl
def I9:TI:=(ti Tryz.prog 9).getD ⟨.bool,0,0,[],false⟩
@[simp] theorem ti9:ti Tryz.prog 9=some I9:=by kernel_rfl
@[simp] theorem si9:I9.size=1:=by kernel_rfl
@[simp] theorem by9:I9.bytes=16:=by kernel_rfl
@[simp] theorem ze9:I9.zero=[.str []]:=by kernel_rfl
@[simp] theorem za9:I9.lF=false:=by kernel_rfl
@[simp] theorem de9:I9.desc=.string:=by kernel_rfl
def zAb:TI:=(ti Tryz.prog 22).getD ⟨.bool,0,0,[],false⟩
@[simp] theorem zQr:ti Tryz.prog 22=some zAb:=by kernel_rfl
@[simp] theorem zQW:zAb.size=1:=by kernel_rfl
@[simp] theorem zSC:zAb.bytes=24:=by kernel_rfl
@[simp] theorem zPC:zAb.zero=[.snil]:=by kernel_rfl
@[simp] theorem zPY:zAb.lF=false:=by kernel_rfl
@[simp] theorem zSe:zAb.desc=.slice 3:=by kernel_rfl
def zAa:TI:=(ti Tryz.prog 25).getD ⟨.bool,0,0,[],false⟩
@[simp] theorem zQq:ti Tryz.prog 25=some zAa:=by kernel_rfl
@[simp] theorem zQV:zAa.size=1:=by kernel_rfl
@[simp] theorem zSB:zAa.bytes=24:=by kernel_rfl
@[simp] theorem zPB:zAa.zero=[.snil]:=by kernel_rfl
@[simp] theorem zPX:zAa.lF=false:=by kernel_rfl
@[simp] theorem zSd:zAa.desc=.slice 42:=by kernel_rfl
def zz9:TI:=(ti Tryz.prog 26).getD ⟨.bool,0,0,[],false⟩
@[simp] theorem zQp:ti Tryz.prog 26=some zz9:=by kernel_rfl
@[simp] theorem zQU:zz9.size=1:=by kernel_rfl
@[simp] theorem zSA:zz9.bytes=24:=by kernel_rfl
@[simp] theorem zPA:zz9.zero=[.snil]:=by kernel_rfl
@[simp] theorem zPW:zz9.lF=false:=by kernel_rfl
@[simp] theorem zSc:zz9.desc=.slice 72:=by kernel_rfl
def zaW:TI:=(ti Tryz.prog 28).getD ⟨.bool,0,0,[],false⟩
@[simp] theorem zQo:ti Tryz.prog 28=some zaW:=by kernel_rfl
@[simp] theorem zQT:zaW.size=2:=by kernel_rfl
@[simp] theorem zSz:zaW.bytes=48:=by kernel_rfl
@[simp] theorem zPz:zaW.zero=[.snil,.snil]:=by kernel_rfl
@[simp] theorem zPV:zaW.lF=true:=by kernel_rfl
@[simp] theorem zSN:gL zaW.desc=true:=by kernel_rfl
@[simp] theorem zQA:fU zaW.desc=true:=by kernel_rfl
@[simp] theorem zRY:gZ Tryz.prog (fieldsOf zaW.desc)=true:=by kernel_rfl
def zlZ:Field:=(aO zaW 0).getD default
@[simp] theorem zMV:aO zaW 0=some zlZ:=by kernel_rfl
@[simp] theorem zL3:zlZ.type=25:=by kernel_rfl
@[simp] theorem zMs:zlZ.offset=0:=by kernel_rfl
def zlY:Field:=(aO zaW 1).getD default
@[simp] theorem zMU:aO zaW 1=some zlY:=by kernel_rfl
@[simp] theorem zL2:zlY.type=26:=by kernel_rfl
@[simp] theorem zMr:zlY.offset=1:=by kernel_rfl
def zz8:TI:=(ti Tryz.prog 29).getD ⟨.bool,0,0,[],false⟩
@[simp] theorem zQn:ti Tryz.prog 29=some zz8:=by kernel_rfl
@[simp] theorem zQS:zz8.size=1:=by kernel_rfl
@[simp] theorem zSy:zz8.bytes=24:=by kernel_rfl
@[simp] theorem zPy:zz8.zero=[.snil]:=by kernel_rfl
@[simp] theorem zPU:zz8.lF=false:=by kernel_rfl
@[simp] theorem zSb:zz8.desc=.slice 31:=by kernel_rfl
def M9:TI:=(ti Tryz.prog 31).getD ⟨.bool,0,0,[],false⟩
@[simp] theorem zQm:ti Tryz.prog 31=some M9:=by kernel_rfl
@[simp] theorem zQR:M9.size=5:=by kernel_rfl
@[simp] theorem zSx:M9.bytes=64:=by kernel_rfl
@[simp] theorem zPx:M9.zero=[.int .i64 0,.str [],.int .i64 0,.int .i64 0,.snil]:=by kernel_rfl
@[simp] theorem zPT:M9.lF=true:=by kernel_rfl
@[simp] theorem zSM:gL M9.desc=true:=by kernel_rfl
@[simp] theorem zQz:fU M9.desc=true:=by kernel_rfl
@[simp] theorem zRX:gZ Tryz.prog (fieldsOf M9.desc)=true:=by kernel_rfl
def zlX:Field:=(aO M9 0).getD default
@[simp] theorem zMT:aO M9 0=some zlX:=by kernel_rfl
@[simp] theorem zL1:zlX.type=3:=by kernel_rfl
@[simp] theorem zMq:zlX.offset=0:=by kernel_rfl
def zlW:Field:=(aO M9 1).getD default
@[simp] theorem zMS:aO M9 1=some zlW:=by kernel_rfl
@[simp] theorem zL0:zlW.type=9:=by kernel_rfl
@[simp] theorem zMp:zlW.offset=1:=by kernel_rfl
def zlV:Field:=(aO M9 2).getD default
@[simp] theorem zMR:aO M9 2=some zlV:=by kernel_rfl
@[simp] theorem zLZ:zlV.type=3:=by kernel_rfl
@[simp] theorem zMo:zlV.offset=2:=by kernel_rfl
def zlU:Field:=(aO M9 3).getD default
@[simp] theorem zMQ:aO M9 3=some zlU:=by kernel_rfl
@[simp] theorem zLY:zlU.type=3:=by kernel_rfl
@[simp] theorem zMn:zlU.offset=3:=by kernel_rfl
def zlT:Field:=(aO M9 4).getD default
@[simp] theorem zMP:aO M9 4=some zlT:=by kernel_rfl
@[simp] theorem zLX:zlT.type=29:=by kernel_rfl
@[simp] theorem zMm:zlT.offset=4:=by kernel_rfl
def zz7:TI:=(ti Tryz.prog 35).getD ⟨.bool,0,0,[],false⟩
@[simp] theorem zQl:ti Tryz.prog 35=some zz7:=by kernel_rfl
@[simp] theorem zQQ:zz7.size=1:=by kernel_rfl
@[simp] theorem zSw:zz7.bytes=8:=by kernel_rfl
@[simp] theorem zPw:zz7.zero=[.int .i64 0]:=by kernel_rfl
@[simp] theorem zPS:zz7.lF=false:=by kernel_rfl
@[simp] theorem zSa:zz7.desc=.int .i64:=by kernel_rfl
def Qx:TI:=(ti Tryz.prog 42).getD ⟨.bool,0,0,[],false⟩
@[simp] theorem zQk:ti Tryz.prog 42=some Qx:=by kernel_rfl
@[simp] theorem zQP:Qx.size=8:=by kernel_rfl
@[simp] theorem zSv:Qx.bytes=88:=by kernel_rfl
@[simp] theorem zPv:Qx.zero=[.bool false,.int .i64 0,.str [],.int .i64 0,.int .i64 0,.snil,.int .i64 0,.bool false]:=by kernel_rfl
@[simp] theorem zPR:Qx.lF=true:=by kernel_rfl
@[simp] theorem zSL:gL Qx.desc=true:=by kernel_rfl
@[simp] theorem zQy:fU Qx.desc=true:=by kernel_rfl
@[simp] theorem zRW:gZ Tryz.prog (fieldsOf Qx.desc)=true:=by kernel_rfl
def zlS:Field:=(aO Qx 0).getD default
@[simp] theorem zMO:aO Qx 0=some zlS:=by kernel_rfl
@[simp] theorem zLW:zlS.type=4:=by kernel_rfl
@[simp] theorem zMl:zlS.offset=0:=by kernel_rfl
def zlR:Field:=(aO Qx 1).getD default
@[simp] theorem zMN:aO Qx 1=some zlR:=by kernel_rfl
@[simp] theorem zLV:zlR.type=31:=by kernel_rfl
@[simp] theorem zMk:zlR.offset=1:=by kernel_rfl
def zlQ:Field:=(aO Qx 2).getD default
@[simp] theorem zMM:aO Qx 2=some zlQ:=by kernel_rfl
@[simp] theorem zLU:zlQ.type=3:=by kernel_rfl
@[simp] theorem zMj:zlQ.offset=6:=by kernel_rfl
def zlP:Field:=(aO Qx 3).getD default
@[simp] theorem zML:aO Qx 3=some zlP:=by kernel_rfl
@[simp] theorem zLT:zlP.type=4:=by kernel_rfl
@[simp] theorem zMi:zlP.offset=7:=by kernel_rfl
def zaV:TI:=(ti Tryz.prog 53).getD ⟨.bool,0,0,[],false⟩
@[simp] theorem zQj:ti Tryz.prog 53=some zaV:=by kernel_rfl
@[simp] theorem zQO:zaV.size=2:=by kernel_rfl
@[simp] theorem zSu:zaV.bytes=32:=by kernel_rfl
@[simp] theorem zPu:zaV.zero=[.snil,.int .i64 0]:=by kernel_rfl
@[simp] theorem zPQ:zaV.lF=true:=by kernel_rfl
@[simp] theorem zSK:gL zaV.desc=true:=by kernel_rfl
@[simp] theorem zQx:fU zaV.desc=true:=by kernel_rfl
@[simp] theorem zRV:gZ Tryz.prog (fieldsOf zaV.desc)=true:=by kernel_rfl
def zlO:Field:=(aO zaV 0).getD default
@[simp] theorem zMK:aO zaV 0=some zlO:=by kernel_rfl
@[simp] theorem zLS:zlO.type=22:=by kernel_rfl
@[simp] theorem zMh:zlO.offset=0:=by kernel_rfl
def zlN:Field:=(aO zaV 1).getD default
@[simp] theorem zMJ:aO zaV 1=some zlN:=by kernel_rfl
@[simp] theorem zLR:zlN.type=3:=by kernel_rfl
@[simp] theorem zMg:zlN.offset=1:=by kernel_rfl
def zz6:TI:=(ti Tryz.prog 54).getD ⟨.bool,0,0,[],false⟩
@[simp] theorem zQi:ti Tryz.prog 54=some zz6:=by kernel_rfl
@[simp] theorem zQN:zz6.size=1:=by kernel_rfl
@[simp] theorem zSt:zz6.bytes=24:=by kernel_rfl
@[simp] theorem zPt:zz6.zero=[.snil]:=by kernel_rfl
@[simp] theorem zPP:zz6.lF=false:=by kernel_rfl
@[simp] theorem zR9:zz6.desc=.slice 84:=by kernel_rfl
def zz5:TI:=(ti Tryz.prog 63).getD ⟨.bool,0,0,[],false⟩
@[simp] theorem zQh:ti Tryz.prog 63=some zz5:=by kernel_rfl
@[simp] theorem zQM:zz5.size=1:=by kernel_rfl
@[simp] theorem zSs:zz5.bytes=24:=by kernel_rfl
@[simp] theorem zPs:zz5.zero=[.snil]:=by kernel_rfl
@[simp] theorem zPO:zz5.lF=false:=by kernel_rfl
@[simp] theorem zR8:zz5.desc=.slice 92:=by kernel_rfl
def YD:TI:=(ti Tryz.prog 72).getD ⟨.bool,0,0,[],false⟩
@[simp] theorem zQg:ti Tryz.prog 72=some YD:=by kernel_rfl
@[simp] theorem zQL:YD.size=10:=by kernel_rfl
@[simp] theorem zSr:YD.bytes=104:=by kernel_rfl
@[simp] theorem zPr:YD.zero=[.int .i64 0,.bool false,.int .i64 0,.str [],.int .i64 0,.int .i64 0,.snil,.int .i64 0,.bool false,.bool false]:=by kernel_rfl
@[simp] theorem zPN:YD.lF=true:=by kernel_rfl
@[simp] theorem zSJ:gL YD.desc=true:=by kernel_rfl
@[simp] theorem zQw:fU YD.desc=true:=by kernel_rfl
@[simp] theorem zRU:gZ Tryz.prog (fieldsOf YD.desc)=true:=by kernel_rfl
def zlM:Field:=(aO YD 0).getD default
@[simp] theorem zMI:aO YD 0=some zlM:=by kernel_rfl
@[simp] theorem zLQ:zlM.type=3:=by kernel_rfl
@[simp] theorem zMf:zlM.offset=0:=by kernel_rfl
def zlL:Field:=(aO YD 1).getD default
@[simp] theorem zMH:aO YD 1=some zlL:=by kernel_rfl
@[simp] theorem zLP:zlL.type=42:=by kernel_rfl
@[simp] theorem zMe:zlL.offset=1:=by kernel_rfl
def zlK:Field:=(aO YD 2).getD default
@[simp] theorem zMG:aO YD 2=some zlK:=by kernel_rfl
@[simp] theorem zLO:zlK.type=4:=by kernel_rfl
@[simp] theorem zMd:zlK.offset=9:=by kernel_rfl
def zz4:TI:=(ti Tryz.prog 74).getD ⟨.bool,0,0,[],false⟩
@[simp] theorem zQf:ti Tryz.prog 74=some zz4:=by kernel_rfl
@[simp] theorem zQK:zz4.size=1:=by kernel_rfl
@[simp] theorem zSq:zz4.bytes=8:=by kernel_rfl
@[simp] theorem zPq:zz4.zero=[.nilptr]:=by kernel_rfl
@[simp] theorem zPM:zz4.lF=false:=by kernel_rfl
@[simp] theorem zR7:zz4.desc=.pointer 28:=by kernel_rfl
def zz3:TI:=(ti Tryz.prog 81).getD ⟨.bool,0,0,[],false⟩
@[simp] theorem zQe:ti Tryz.prog 81=some zz3:=by kernel_rfl
@[simp] theorem zQJ:zz3.size=1:=by kernel_rfl
@[simp] theorem zSp:zz3.bytes=24:=by kernel_rfl
@[simp] theorem zPp:zz3.zero=[.snil]:=by kernel_rfl
@[simp] theorem zPL:zz3.lF=false:=by kernel_rfl
@[simp] theorem zR6:zz3.desc=.slice 9:=by kernel_rfl
def zz2:TI:=(ti Tryz.prog 82).getD ⟨.bool,0,0,[],false⟩
@[simp] theorem zQd:ti Tryz.prog 82=some zz2:=by kernel_rfl
@[simp] theorem zQI:zz2.size=1:=by kernel_rfl
@[simp] theorem zSo:zz2.bytes=24:=by kernel_rfl
@[simp] theorem zPo:zz2.zero=[.snil]:=by kernel_rfl
@[simp] theorem zPK:zz2.lF=false:=by kernel_rfl
@[simp] theorem zR5:zz2.desc=.slice 171:=by kernel_rfl
def Qw:TI:=(ti Tryz.prog 84).getD ⟨.bool,0,0,[],false⟩
@[simp] theorem zQc:ti Tryz.prog 84=some Qw:=by kernel_rfl
@[simp] theorem zQH:Qw.size=4:=by kernel_rfl
@[simp] theorem zSn:Qw.bytes=72:=by kernel_rfl
@[simp] theorem zPn:Qw.zero=[.int .i64 0,.str [],.snil,.snil]:=by kernel_rfl
@[simp] theorem zPJ:Qw.lF=true:=by kernel_rfl
@[simp] theorem zSI:gL Qw.desc=true:=by kernel_rfl
@[simp] theorem zQv:fU Qw.desc=true:=by kernel_rfl
@[simp] theorem zRT:gZ Tryz.prog (fieldsOf Qw.desc)=true:=by kernel_rfl
def zlJ:Field:=(aO Qw 0).getD default
@[simp] theorem zMF:aO Qw 0=some zlJ:=by kernel_rfl
@[simp] theorem zLN:zlJ.type=3:=by kernel_rfl
@[simp] theorem zMc:zlJ.offset=0:=by kernel_rfl
def zlI:Field:=(aO Qw 1).getD default
@[simp] theorem zME:aO Qw 1=some zlI:=by kernel_rfl
@[simp] theorem zLM:zlI.type=9:=by kernel_rfl
@[simp] theorem zMb:zlI.offset=1:=by kernel_rfl
def zlH:Field:=(aO Qw 2).getD default
@[simp] theorem zMD:aO Qw 2=some zlH:=by kernel_rfl
@[simp] theorem zLL:zlH.type=81:=by kernel_rfl
@[simp] theorem zMa:zlH.offset=2:=by kernel_rfl
def zlG:Field:=(aO Qw 3).getD default
@[simp] theorem zMC:aO Qw 3=some zlG:=by kernel_rfl
@[simp] theorem zLK:zlG.type=82:=by kernel_rfl
@[simp] theorem zL9:zlG.offset=3:=by kernel_rfl
def zz1:TI:=(ti Tryz.prog 85).getD ⟨.bool,0,0,[],false⟩
@[simp] theorem zQb:ti Tryz.prog 85=some zz1:=by kernel_rfl
@[simp] theorem zQG:zz1.size=1:=by kernel_rfl
@[simp] theorem zSm:zz1.bytes=8:=by kernel_rfl
@[simp] theorem zPm:zz1.zero=[.int .u64 0]:=by kernel_rfl
@[simp] theorem zPI:zz1.lF=false:=by kernel_rfl
@[simp] theorem zR4:zz1.desc=.int .u64:=by kernel_rfl
def zaU:TI:=(ti Tryz.prog 92).getD ⟨.bool,0,0,[],false⟩
@[simp] theorem zQa:ti Tryz.prog 92=some zaU:=by kernel_rfl
@[simp] theorem zQF:zaU.size=6:=by kernel_rfl
@[simp] theorem zSl:zaU.bytes=72:=by kernel_rfl
@[simp] theorem zPl:zaU.zero=[.int .i64 0,.int .i64 0,.str [],.int .i64 0,.int .i64 0,.snil]:=by kernel_rfl
@[simp] theorem zPH:zaU.lF=true:=by kernel_rfl
@[simp] theorem zSH:gL zaU.desc=true:=by kernel_rfl
@[simp] theorem zQu:fU zaU.desc=true:=by kernel_rfl
@[simp] theorem zRS:gZ Tryz.prog (fieldsOf zaU.desc)=true:=by kernel_rfl
def zlF:Field:=(aO zaU 0).getD default
@[simp] theorem zMB:aO zaU 0=some zlF:=by kernel_rfl
@[simp] theorem zLJ:zlF.type=3:=by kernel_rfl
@[simp] theorem zL8:zlF.offset=0:=by kernel_rfl
def zlE:Field:=(aO zaU 1).getD default
@[simp] theorem zMA:aO zaU 1=some zlE:=by kernel_rfl
@[simp] theorem zLI:zlE.type=31:=by kernel_rfl
@[simp] theorem zL7:zlE.offset=1:=by kernel_rfl
def zz0:TI:=(ti Tryz.prog 93).getD ⟨.bool,0,0,[],false⟩
@[simp] theorem zP9:ti Tryz.prog 93=some zz0:=by kernel_rfl
@[simp] theorem zQE:zz0.size=1:=by kernel_rfl
@[simp] theorem zSk:zz0.bytes=8:=by kernel_rfl
@[simp] theorem zPk:zz0.zero=[.nilptr]:=by kernel_rfl
@[simp] theorem zPG:zz0.lF=false:=by kernel_rfl
@[simp] theorem zR3:zz0.desc=.pointer 95:=by kernel_rfl
def zmL:TI:=(ti Tryz.prog 95).getD ⟨.bool,0,0,[],false⟩
@[simp] theorem zP8:ti Tryz.prog 95=some zmL:=by kernel_rfl
@[simp] theorem zQD:zmL.size=1:=by kernel_rfl
@[simp] theorem zSj:zmL.bytes=8:=by kernel_rfl
@[simp] theorem zPj:zmL.zero=[.nilptr]:=by kernel_rfl
@[simp] theorem zPF:zmL.lF=true:=by kernel_rfl
@[simp] theorem zSG:gL zmL.desc=true:=by kernel_rfl
@[simp] theorem zQt:fU zmL.desc=true:=by kernel_rfl
@[simp] theorem zRR:gZ Tryz.prog (fieldsOf zmL.desc)=true:=by kernel_rfl
def zlD:Field:=(aO zmL 0).getD default
@[simp] theorem zMz:aO zmL 0=some zlD:=by kernel_rfl
@[simp] theorem zLH:zlD.type=74:=by kernel_rfl
@[simp] theorem zL6:zlD.offset=0:=by kernel_rfl
def zay:TI:=(ti Tryz.prog 97).getD ⟨.bool,0,0,[],false⟩
@[simp] theorem zP7:ti Tryz.prog 97=some zay:=by kernel_rfl
@[simp] theorem zJY:zay.size=10:=by kernel_rfl
@[simp] theorem zSi:zay.bytes=128:=by kernel_rfl
@[simp] theorem zPi:zay.zero=[.int .i64 0,.str [],.int .i64 0,.int .i64 0,.snil,.int .i64 0,.str [],.int .i64 0,.int .i64 0,.snil]:=by kernel_rfl
@[simp] theorem zPE:zay.lF=true:=by kernel_rfl
@[simp] theorem zSF:gL zay.desc=true:=by kernel_rfl
@[simp] theorem zQs:fU zay.desc=true:=by kernel_rfl
@[simp] theorem zRQ:gZ Tryz.prog (fieldsOf zay.desc)=true:=by kernel_rfl
def zlC:Field:=(aO zay 0).getD default
@[simp] theorem zMy:aO zay 0=some zlC:=by kernel_rfl
@[simp] theorem zLG:zlC.type=31:=by kernel_rfl
@[simp] theorem zL5:zlC.offset=0:=by kernel_rfl
def zlB:Field:=(aO zay 1).getD default
@[simp] theorem zMx:aO zay 1=some zlB:=by kernel_rfl
@[simp] theorem zLF:zlB.type=31:=by kernel_rfl
@[simp] theorem zL4:zlB.offset=5:=by kernel_rfl
def zwP:TI:=(ti Tryz.prog 98).getD ⟨.bool,0,0,[],false⟩
@[simp] theorem zP6:ti Tryz.prog 98=some zwP:=by kernel_rfl
@[simp] theorem zQC:zwP.size=1:=by kernel_rfl
@[simp] theorem zSh:zwP.bytes=24:=by kernel_rfl
@[simp] theorem zPh:zwP.zero=[.snil]:=by kernel_rfl
@[simp] theorem zPD:zwP.lF=false:=by kernel_rfl
@[simp] theorem zR2:zwP.desc=.slice 97:=by kernel_rfl
def zaB:TI:=(ti Tryz.prog 154).getD ⟨.bool,0,0,[],false⟩
@[simp] theorem zN4:ti Tryz.prog 154=some zaB:=by kernel_rfl
@[simp] theorem zOh:zaB.size=1:=by kernel_rfl
@[simp] theorem zO6:zaB.bytes=8:=by kernel_rfl
@[simp] theorem zNG:zaB.zero=[.nilmap]:=by kernel_rfl
@[simp] theorem zNL:zaB.lF=false:=by kernel_rfl
@[simp] theorem zO1:zaB.desc=.map 3 4:=by kernel_rfl
def zaA:TI:=(ti Tryz.prog 156).getD ⟨.bool,0,0,[],false⟩
@[simp] theorem zN3:ti Tryz.prog 156=some zaA:=by kernel_rfl
@[simp] theorem zOg:zaA.size=1:=by kernel_rfl
@[simp] theorem zO5:zaA.bytes=24:=by kernel_rfl
@[simp] theorem zNF:zaA.zero=[.snil]:=by kernel_rfl
@[simp] theorem zNK:zaA.lF=false:=by kernel_rfl
@[simp] theorem zO0:zaA.desc=.slice 4:=by kernel_rfl
def Cf:TI:=(ti Tryz.prog 158).getD ⟨.bool,0,0,[],false⟩
@[simp] theorem zN2:ti Tryz.prog 158=some Cf:=by kernel_rfl
@[simp] theorem zOf:Cf.size=4:=by kernel_rfl
@[simp] theorem zO4:Cf.bytes=96:=by kernel_rfl
@[simp] theorem zNE:Cf.zero=[.snil,.snil,.snil,.snil]:=by kernel_rfl
@[simp] theorem zNJ:Cf.lF=true:=by kernel_rfl
@[simp] theorem zPa:gL Cf.desc=true:=by kernel_rfl
@[simp] theorem zN9:fU Cf.desc=true:=by kernel_rfl
@[simp] theorem zOU:gZ Tryz.prog (fieldsOf Cf.desc)=true:=by kernel_rfl
def SN:Field:=(aO Cf 0).getD default
@[simp] theorem zIx:aO Cf 0=some SN:=by kernel_rfl
@[simp] theorem zIj:SN.type=28:=by kernel_rfl
@[simp] theorem zIq:SN.offset=0:=by kernel_rfl
def SL:Field:=(aO Cf 1).getD default
@[simp] theorem zIw:aO Cf 1=some SL:=by kernel_rfl
@[simp] theorem zIi:SL.type=22:=by kernel_rfl
@[simp] theorem zIp:SL.offset=2:=by kernel_rfl
def SK:Field:=(aO Cf 2).getD default
@[simp] theorem zIv:aO Cf 2=some SK:=by kernel_rfl
@[simp] theorem zIh:SK.type=156:=by kernel_rfl
@[simp] theorem zIo:SK.offset=3:=by kernel_rfl
def zaz:TI:=(ti Tryz.prog 159).getD ⟨.bool,0,0,[],false⟩
@[simp] theorem zN1:ti Tryz.prog 159=some zaz:=by kernel_rfl
@[simp] theorem zOe:zaz.size=1:=by kernel_rfl
@[simp] theorem zO3:zaz.bytes=8:=by kernel_rfl
@[simp] theorem zND:zaz.zero=[.nilFunc]:=by kernel_rfl
@[simp] theorem zNI:zaz.lF=false:=by kernel_rfl
@[simp] theorem zO9:gL zaz.desc=false:=by kernel_rfl
def Ce:TI:=(ti Tryz.prog 171).getD ⟨.bool,0,0,[],false⟩
@[simp] theorem zN0:ti Tryz.prog 171=some Ce:=by kernel_rfl
@[simp] theorem zOd:Ce.size=3:=by kernel_rfl
@[simp] theorem zO2:Ce.bytes=48:=by kernel_rfl
@[simp] theorem zNC:Ce.zero=[.int .i64 0,.str [],.snil]:=by kernel_rfl
@[simp] theorem zNH:Ce.lF=true:=by kernel_rfl
@[simp] theorem zO8:gL Ce.desc=true:=by kernel_rfl
@[simp] theorem zN8:fU Ce.desc=true:=by kernel_rfl
@[simp] theorem zOT:gZ Tryz.prog (fieldsOf Ce.desc)=true:=by kernel_rfl
def SI:Field:=(aO Ce 0).getD default
@[simp] theorem zIu:aO Ce 0=some SI:=by kernel_rfl
@[simp] theorem zIg:SI.type=3:=by kernel_rfl
@[simp] theorem zIn:SI.offset=0:=by kernel_rfl
def SH:Field:=(aO Ce 1).getD default
@[simp] theorem zIt:aO Ce 1=some SH:=by kernel_rfl
@[simp] theorem zIf:SH.type=9:=by kernel_rfl
@[simp] theorem zIm:SH.offset=1:=by kernel_rfl
def SG:Field:=(aO Ce 2).getD default
@[simp] theorem zIs:aO Ce 2=some SG:=by kernel_rfl
@[simp] theorem zIe:SG.type=29:=by kernel_rfl
@[simp] theorem zIl:SG.offset=2:=by kernel_rfl
end Go.Proofs.YtocdkgjpdnamlaaGreat
