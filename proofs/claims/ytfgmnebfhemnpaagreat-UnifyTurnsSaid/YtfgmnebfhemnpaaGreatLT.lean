import Derived.Test.YtfgmnebfhemnpaaGreatJH
import Derived.Test.YtfgmnebfhemnpaaGreatRows
set_option linter.all false
noncomputable section
namespace Go.Proofs.YtfgmnebfhemnpaaGreat
open Go.J
def I3:TI:=(ti Tryz.prog 3).getD ⟨.bool,0,0,[],false⟩
@[simp] theorem ti3:ti Tryz.prog 3=some I3:=by kernel_rfl
@[simp] theorem si3:I3.size=1:=by kernel_rfl
@[simp] theorem by3:I3.bytes=8:=by kernel_rfl
@[simp] theorem ze3:I3.zero=[.int .i64 0]:=by kernel_rfl
@[simp] theorem za3:I3.zagg=false:=by kernel_rfl
@[simp] theorem de3:I3.desc=.int .i64:=by kernel_rfl
def I4:TI:=(ti Tryz.prog 4).getD ⟨.bool,0,0,[],false⟩
@[simp] theorem ti4:ti Tryz.prog 4=some I4:=by kernel_rfl
@[simp] theorem si4:I4.size=1:=by kernel_rfl
@[simp] theorem by4:I4.bytes=1:=by kernel_rfl
@[simp] theorem ze4:I4.zero=[.bool false]:=by kernel_rfl
@[simp] theorem za4:I4.zagg=false:=by kernel_rfl
@[simp] theorem de4:I4.desc=.bool:=by kernel_rfl
def I5:TI:=(ti Tryz.prog 5).getD ⟨.bool,0,0,[],false⟩
@[simp] theorem ti5:ti Tryz.prog 5=some I5:=by kernel_rfl
@[simp] theorem si5:I5.size=1:=by kernel_rfl
@[simp] theorem by5:I5.bytes=1:=by kernel_rfl
@[simp] theorem ze5:I5.zero=[.int .u8 0]:=by kernel_rfl
@[simp] theorem za5:I5.zagg=false:=by kernel_rfl
@[simp] theorem de5:I5.desc=.int .u8:=by kernel_rfl
def I9:TI:=(ti Tryz.prog 9).getD ⟨.bool,0,0,[],false⟩
@[simp] theorem ti9:ti Tryz.prog 9=some I9:=by kernel_rfl
@[simp] theorem si9:I9.size=1:=by kernel_rfl
@[simp] theorem by9:I9.bytes=16:=by kernel_rfl
@[simp] theorem ze9:I9.zero=[.str []]:=by kernel_rfl
@[simp] theorem za9:I9.zagg=false:=by kernel_rfl
@[simp] theorem de9:I9.desc=.string:=by kernel_rfl
def I22:TI:=(ti Tryz.prog 22).getD ⟨.bool,0,0,[],false⟩
@[simp] theorem ti22:ti Tryz.prog 22=some I22:=by kernel_rfl
@[simp] theorem si22:I22.size=1:=by kernel_rfl
@[simp] theorem by22:I22.bytes=24:=by kernel_rfl
@[simp] theorem ze22:I22.zero=[.snil]:=by kernel_rfl
@[simp] theorem za22:I22.zagg=false:=by kernel_rfl
@[simp] theorem de22:I22.desc=.slice 3:=by kernel_rfl
def I25:TI:=(ti Tryz.prog 25).getD ⟨.bool,0,0,[],false⟩
@[simp] theorem ti25:ti Tryz.prog 25=some I25:=by kernel_rfl
@[simp] theorem si25:I25.size=1:=by kernel_rfl
@[simp] theorem by25:I25.bytes=24:=by kernel_rfl
@[simp] theorem ze25:I25.zero=[.snil]:=by kernel_rfl
@[simp] theorem za25:I25.zagg=false:=by kernel_rfl
@[simp] theorem de25:I25.desc=.slice 62:=by kernel_rfl
def I26:TI:=(ti Tryz.prog 26).getD ⟨.bool,0,0,[],false⟩
@[simp] theorem ti26:ti Tryz.prog 26=some I26:=by kernel_rfl
@[simp] theorem si26:I26.size=1:=by kernel_rfl
@[simp] theorem by26:I26.bytes=24:=by kernel_rfl
@[simp] theorem ze26:I26.zero=[.snil]:=by kernel_rfl
@[simp] theorem za26:I26.zagg=false:=by kernel_rfl
@[simp] theorem de26:I26.desc=.slice 72:=by kernel_rfl
def I28:TI:=(ti Tryz.prog 28).getD ⟨.bool,0,0,[],false⟩
@[simp] theorem ti28:ti Tryz.prog 28=some I28:=by kernel_rfl
@[simp] theorem si28:I28.size=2:=by kernel_rfl
@[simp] theorem by28:I28.bytes=48:=by kernel_rfl
@[simp] theorem ze28:I28.zero=[.snil,.snil]:=by kernel_rfl
@[simp] theorem za28:I28.zagg=true:=by kernel_rfl
@[simp] theorem ag28:zbc I28.desc=true:=by kernel_rfl
@[simp] theorem st28:za2 I28.desc=true:=by kernel_rfl
@[simp] theorem fk28:zaR Tryz.prog (fieldsOf I28.desc)=true:=by kernel_rfl
def F28x0:Field:=(zB I28 0).getD default
@[simp] theorem zQa:zB I28 0=some F28x0:=by kernel_rfl
@[simp] theorem zPi:F28x0.type=25:=by kernel_rfl
@[simp] theorem zP8:F28x0.offset=0:=by kernel_rfl
def F28x1:Field:=(zB I28 1).getD default
@[simp] theorem zPZ:zB I28 1=some F28x1:=by kernel_rfl
@[simp] theorem zPh:F28x1.type=26:=by kernel_rfl
@[simp] theorem zP7:F28x1.offset=1:=by kernel_rfl
def I29:TI:=(ti Tryz.prog 29).getD ⟨.bool,0,0,[],false⟩
@[simp] theorem ti29:ti Tryz.prog 29=some I29:=by kernel_rfl
@[simp] theorem si29:I29.size=1:=by kernel_rfl
@[simp] theorem by29:I29.bytes=24:=by kernel_rfl
@[simp] theorem ze29:I29.zero=[.snil]:=by kernel_rfl
@[simp] theorem za29:I29.zagg=false:=by kernel_rfl
@[simp] theorem de29:I29.desc=.slice 31:=by kernel_rfl
def I31:TI:=(ti Tryz.prog 31).getD ⟨.bool,0,0,[],false⟩
@[simp] theorem ti31:ti Tryz.prog 31=some I31:=by kernel_rfl
@[simp] theorem si31:I31.size=5:=by kernel_rfl
@[simp] theorem by31:I31.bytes=64:=by kernel_rfl
@[simp] theorem ze31:I31.zero=[.int .i64 0,.str [],.int .i64 0,.int .i64 0,.snil]:=by kernel_rfl
@[simp] theorem za31:I31.zagg=true:=by kernel_rfl
@[simp] theorem ag31:zbc I31.desc=true:=by kernel_rfl
@[simp] theorem st31:za2 I31.desc=true:=by kernel_rfl
@[simp] theorem fk31:zaR Tryz.prog (fieldsOf I31.desc)=true:=by kernel_rfl
def F31x0:Field:=(zB I31 0).getD default
@[simp] theorem zPY:zB I31 0=some F31x0:=by kernel_rfl
@[simp] theorem zPg:F31x0.type=3:=by kernel_rfl
@[simp] theorem zP6:F31x0.offset=0:=by kernel_rfl
def F31x1:Field:=(zB I31 1).getD default
@[simp] theorem zPX:zB I31 1=some F31x1:=by kernel_rfl
@[simp] theorem zPf:F31x1.type=9:=by kernel_rfl
@[simp] theorem zP5:F31x1.offset=1:=by kernel_rfl
def F31x2:Field:=(zB I31 2).getD default
@[simp] theorem zPW:zB I31 2=some F31x2:=by kernel_rfl
@[simp] theorem zPe:F31x2.type=3:=by kernel_rfl
@[simp] theorem zP4:F31x2.offset=2:=by kernel_rfl
def F31x3:Field:=(zB I31 3).getD default
@[simp] theorem zPV:zB I31 3=some F31x3:=by kernel_rfl
@[simp] theorem zPd:F31x3.type=3:=by kernel_rfl
@[simp] theorem zP3:F31x3.offset=3:=by kernel_rfl
def F31x4:Field:=(zB I31 4).getD default
@[simp] theorem zPU:zB I31 4=some F31x4:=by kernel_rfl
@[simp] theorem zPc:F31x4.type=29:=by kernel_rfl
@[simp] theorem zP2:F31x4.offset=4:=by kernel_rfl
def I35:TI:=(ti Tryz.prog 35).getD ⟨.bool,0,0,[],false⟩
@[simp] theorem ti35:ti Tryz.prog 35=some I35:=by kernel_rfl
@[simp] theorem si35:I35.size=1:=by kernel_rfl
@[simp] theorem by35:I35.bytes=8:=by kernel_rfl
@[simp] theorem ze35:I35.zero=[.int .i64 0]:=by kernel_rfl
@[simp] theorem za35:I35.zagg=false:=by kernel_rfl
@[simp] theorem de35:I35.desc=.int .i64:=by kernel_rfl
def I47:TI:=(ti Tryz.prog 47).getD ⟨.bool,0,0,[],false⟩
@[simp] theorem ti47:ti Tryz.prog 47=some I47:=by kernel_rfl
@[simp] theorem si47:I47.size=2:=by kernel_rfl
@[simp] theorem by47:I47.bytes=32:=by kernel_rfl
@[simp] theorem ze47:I47.zero=[.snil,.int .i64 0]:=by kernel_rfl
@[simp] theorem za47:I47.zagg=true:=by kernel_rfl
@[simp] theorem ag47:zbc I47.desc=true:=by kernel_rfl
@[simp] theorem st47:za2 I47.desc=true:=by kernel_rfl
@[simp] theorem fk47:zaR Tryz.prog (fieldsOf I47.desc)=true:=by kernel_rfl
def F47x0:Field:=(zB I47 0).getD default
@[simp] theorem zPT:zB I47 0=some F47x0:=by kernel_rfl
@[simp] theorem zPb:F47x0.type=22:=by kernel_rfl
@[simp] theorem zP1:F47x0.offset=0:=by kernel_rfl
def F47x1:Field:=(zB I47 1).getD default
@[simp] theorem zPS:zB I47 1=some F47x1:=by kernel_rfl
@[simp] theorem zPa:F47x1.type=3:=by kernel_rfl
@[simp] theorem zP0:F47x1.offset=1:=by kernel_rfl
def I48:TI:=(ti Tryz.prog 48).getD ⟨.bool,0,0,[],false⟩
@[simp] theorem ti48:ti Tryz.prog 48=some I48:=by kernel_rfl
@[simp] theorem si48:I48.size=1:=by kernel_rfl
@[simp] theorem by48:I48.bytes=24:=by kernel_rfl
@[simp] theorem ze48:I48.zero=[.snil]:=by kernel_rfl
@[simp] theorem za48:I48.zagg=false:=by kernel_rfl
@[simp] theorem de48:I48.desc=.slice 83:=by kernel_rfl
def I57:TI:=(ti Tryz.prog 57).getD ⟨.bool,0,0,[],false⟩
@[simp] theorem ti57:ti Tryz.prog 57=some I57:=by kernel_rfl
@[simp] theorem si57:I57.size=1:=by kernel_rfl
@[simp] theorem by57:I57.bytes=24:=by kernel_rfl
@[simp] theorem ze57:I57.zero=[.snil]:=by kernel_rfl
@[simp] theorem za57:I57.zagg=false:=by kernel_rfl
@[simp] theorem de57:I57.desc=.slice 91:=by kernel_rfl
def I62:TI:=(ti Tryz.prog 62).getD ⟨.bool,0,0,[],false⟩
@[simp] theorem ti62:ti Tryz.prog 62=some I62:=by kernel_rfl
@[simp] theorem si62:I62.size=8:=by kernel_rfl
@[simp] theorem by62:I62.bytes=88:=by kernel_rfl
@[simp] theorem ze62:I62.zero=[.bool false,.int .i64 0,.str [],.int .i64 0,.int .i64 0,.snil,.int .i64 0,.bool false]:=by kernel_rfl
@[simp] theorem za62:I62.zagg=true:=by kernel_rfl
@[simp] theorem ag62:zbc I62.desc=true:=by kernel_rfl
@[simp] theorem st62:za2 I62.desc=true:=by kernel_rfl
@[simp] theorem fk62:zaR Tryz.prog (fieldsOf I62.desc)=true:=by kernel_rfl
def F62x0:Field:=(zB I62 0).getD default
@[simp] theorem zPR:zB I62 0=some F62x0:=by kernel_rfl
@[simp] theorem zOZ:F62x0.type=4:=by kernel_rfl
@[simp] theorem zPz:F62x0.offset=0:=by kernel_rfl
def F62x1:Field:=(zB I62 1).getD default
@[simp] theorem zPQ:zB I62 1=some F62x1:=by kernel_rfl
@[simp] theorem zOY:F62x1.type=31:=by kernel_rfl
@[simp] theorem zPy:F62x1.offset=1:=by kernel_rfl
def F62x2:Field:=(zB I62 2).getD default
@[simp] theorem zPP:zB I62 2=some F62x2:=by kernel_rfl
@[simp] theorem zOX:F62x2.type=3:=by kernel_rfl
@[simp] theorem zPx:F62x2.offset=6:=by kernel_rfl
def F62x3:Field:=(zB I62 3).getD default
@[simp] theorem zPO:zB I62 3=some F62x3:=by kernel_rfl
@[simp] theorem zOW:F62x3.type=4:=by kernel_rfl
@[simp] theorem zPw:F62x3.offset=7:=by kernel_rfl
def I72:TI:=(ti Tryz.prog 72).getD ⟨.bool,0,0,[],false⟩
@[simp] theorem ti72:ti Tryz.prog 72=some I72:=by kernel_rfl
@[simp] theorem si72:I72.size=10:=by kernel_rfl
@[simp] theorem by72:I72.bytes=104:=by kernel_rfl
@[simp] theorem ze72:I72.zero=[.int .i64 0,.bool false,.int .i64 0,.str [],.int .i64 0,.int .i64 0,.snil,.int .i64 0,.bool false,.bool false]:=by kernel_rfl
@[simp] theorem za72:I72.zagg=true:=by kernel_rfl
@[simp] theorem ag72:zbc I72.desc=true:=by kernel_rfl
@[simp] theorem st72:za2 I72.desc=true:=by kernel_rfl
@[simp] theorem fk72:zaR Tryz.prog (fieldsOf I72.desc)=true:=by kernel_rfl
def F72x0:Field:=(zB I72 0).getD default
@[simp] theorem zPN:zB I72 0=some F72x0:=by kernel_rfl
@[simp] theorem zOV:F72x0.type=3:=by kernel_rfl
@[simp] theorem zPv:F72x0.offset=0:=by kernel_rfl
def F72x1:Field:=(zB I72 1).getD default
@[simp] theorem zPM:zB I72 1=some F72x1:=by kernel_rfl
@[simp] theorem zOU:F72x1.type=62:=by kernel_rfl
@[simp] theorem zPu:F72x1.offset=1:=by kernel_rfl
def F72x2:Field:=(zB I72 2).getD default
@[simp] theorem zPL:zB I72 2=some F72x2:=by kernel_rfl
@[simp] theorem zOT:F72x2.type=4:=by kernel_rfl
@[simp] theorem zPt:F72x2.offset=9:=by kernel_rfl
def I74:TI:=(ti Tryz.prog 74).getD ⟨.bool,0,0,[],false⟩
@[simp] theorem ti74:ti Tryz.prog 74=some I74:=by kernel_rfl
@[simp] theorem si74:I74.size=1:=by kernel_rfl
@[simp] theorem by74:I74.bytes=8:=by kernel_rfl
@[simp] theorem ze74:I74.zero=[.nilptr]:=by kernel_rfl
@[simp] theorem za74:I74.zagg=false:=by kernel_rfl
@[simp] theorem de74:I74.desc=.pointer 28:=by kernel_rfl
def I80:TI:=(ti Tryz.prog 80).getD ⟨.bool,0,0,[],false⟩
@[simp] theorem ti80:ti Tryz.prog 80=some I80:=by kernel_rfl
@[simp] theorem si80:I80.size=1:=by kernel_rfl
@[simp] theorem by80:I80.bytes=24:=by kernel_rfl
@[simp] theorem ze80:I80.zero=[.snil]:=by kernel_rfl
@[simp] theorem za80:I80.zagg=false:=by kernel_rfl
@[simp] theorem de80:I80.desc=.slice 9:=by kernel_rfl
def I81:TI:=(ti Tryz.prog 81).getD ⟨.bool,0,0,[],false⟩
@[simp] theorem ti81:ti Tryz.prog 81=some I81:=by kernel_rfl
@[simp] theorem si81:I81.size=1:=by kernel_rfl
@[simp] theorem by81:I81.bytes=24:=by kernel_rfl
@[simp] theorem ze81:I81.zero=[.snil]:=by kernel_rfl
@[simp] theorem za81:I81.zagg=false:=by kernel_rfl
@[simp] theorem de81:I81.desc=.slice 171:=by kernel_rfl
def I83:TI:=(ti Tryz.prog 83).getD ⟨.bool,0,0,[],false⟩
@[simp] theorem ti83:ti Tryz.prog 83=some I83:=by kernel_rfl
@[simp] theorem si83:I83.size=4:=by kernel_rfl
@[simp] theorem by83:I83.bytes=72:=by kernel_rfl
@[simp] theorem ze83:I83.zero=[.int .i64 0,.str [],.snil,.snil]:=by kernel_rfl
@[simp] theorem za83:I83.zagg=true:=by kernel_rfl
@[simp] theorem ag83:zbc I83.desc=true:=by kernel_rfl
@[simp] theorem st83:za2 I83.desc=true:=by kernel_rfl
@[simp] theorem fk83:zaR Tryz.prog (fieldsOf I83.desc)=true:=by kernel_rfl
def F83x0:Field:=(zB I83 0).getD default
@[simp] theorem zPK:zB I83 0=some F83x0:=by kernel_rfl
@[simp] theorem zOS:F83x0.type=3:=by kernel_rfl
@[simp] theorem zPs:F83x0.offset=0:=by kernel_rfl
def F83x1:Field:=(zB I83 1).getD default
@[simp] theorem zPJ:zB I83 1=some F83x1:=by kernel_rfl
@[simp] theorem zOR:F83x1.type=9:=by kernel_rfl
@[simp] theorem zPr:F83x1.offset=1:=by kernel_rfl
def F83x2:Field:=(zB I83 2).getD default
@[simp] theorem zPI:zB I83 2=some F83x2:=by kernel_rfl
@[simp] theorem zOQ:F83x2.type=80:=by kernel_rfl
@[simp] theorem zPq:F83x2.offset=2:=by kernel_rfl
def F83x3:Field:=(zB I83 3).getD default
@[simp] theorem zPH:zB I83 3=some F83x3:=by kernel_rfl
@[simp] theorem zOP:F83x3.type=81:=by kernel_rfl
@[simp] theorem zPp:F83x3.offset=3:=by kernel_rfl
def I84:TI:=(ti Tryz.prog 84).getD ⟨.bool,0,0,[],false⟩
@[simp] theorem ti84:ti Tryz.prog 84=some I84:=by kernel_rfl
@[simp] theorem si84:I84.size=1:=by kernel_rfl
@[simp] theorem by84:I84.bytes=8:=by kernel_rfl
@[simp] theorem ze84:I84.zero=[.int .u64 0]:=by kernel_rfl
@[simp] theorem za84:I84.zagg=false:=by kernel_rfl
@[simp] theorem de84:I84.desc=.int .u64:=by kernel_rfl
def I91:TI:=(ti Tryz.prog 91).getD ⟨.bool,0,0,[],false⟩
@[simp] theorem ti91:ti Tryz.prog 91=some I91:=by kernel_rfl
@[simp] theorem si91:I91.size=6:=by kernel_rfl
@[simp] theorem by91:I91.bytes=72:=by kernel_rfl
@[simp] theorem ze91:I91.zero=[.int .i64 0,.int .i64 0,.str [],.int .i64 0,.int .i64 0,.snil]:=by kernel_rfl
@[simp] theorem za91:I91.zagg=true:=by kernel_rfl
@[simp] theorem ag91:zbc I91.desc=true:=by kernel_rfl
@[simp] theorem st91:za2 I91.desc=true:=by kernel_rfl
@[simp] theorem fk91:zaR Tryz.prog (fieldsOf I91.desc)=true:=by kernel_rfl
def F91x0:Field:=(zB I91 0).getD default
@[simp] theorem zPG:zB I91 0=some F91x0:=by kernel_rfl
@[simp] theorem zOO:F91x0.type=3:=by kernel_rfl
@[simp] theorem zPo:F91x0.offset=0:=by kernel_rfl
def F91x1:Field:=(zB I91 1).getD default
@[simp] theorem zPF:zB I91 1=some F91x1:=by kernel_rfl
@[simp] theorem zON:F91x1.type=31:=by kernel_rfl
@[simp] theorem zPn:F91x1.offset=1:=by kernel_rfl
def I93:TI:=(ti Tryz.prog 93).getD ⟨.bool,0,0,[],false⟩
@[simp] theorem ti93:ti Tryz.prog 93=some I93:=by kernel_rfl
@[simp] theorem si93:I93.size=1:=by kernel_rfl
@[simp] theorem by93:I93.bytes=8:=by kernel_rfl
@[simp] theorem ze93:I93.zero=[.nilptr]:=by kernel_rfl
@[simp] theorem za93:I93.zagg=false:=by kernel_rfl
@[simp] theorem de93:I93.desc=.pointer 95:=by kernel_rfl
def I95:TI:=(ti Tryz.prog 95).getD ⟨.bool,0,0,[],false⟩
@[simp] theorem ti95:ti Tryz.prog 95=some I95:=by kernel_rfl
@[simp] theorem si95:I95.size=1:=by kernel_rfl
@[simp] theorem by95:I95.bytes=8:=by kernel_rfl
@[simp] theorem ze95:I95.zero=[.nilptr]:=by kernel_rfl
@[simp] theorem za95:I95.zagg=true:=by kernel_rfl
@[simp] theorem ag95:zbc I95.desc=true:=by kernel_rfl
@[simp] theorem st95:za2 I95.desc=true:=by kernel_rfl
@[simp] theorem fk95:zaR Tryz.prog (fieldsOf I95.desc)=true:=by kernel_rfl
def F95x0:Field:=(zB I95 0).getD default
@[simp] theorem zPE:zB I95 0=some F95x0:=by kernel_rfl
@[simp] theorem zOM:F95x0.type=74:=by kernel_rfl
@[simp] theorem zPm:F95x0.offset=0:=by kernel_rfl
def I97:TI:=(ti Tryz.prog 97).getD ⟨.bool,0,0,[],false⟩
@[simp] theorem ti97:ti Tryz.prog 97=some I97:=by kernel_rfl
@[simp] theorem zS2:I97.size=10:=by kernel_rfl
@[simp] theorem by97:I97.bytes=128:=by kernel_rfl
@[simp] theorem ze97:I97.zero=[.int .i64 0,.str [],.int .i64 0,.int .i64 0,.snil,.int .i64 0,.str [],.int .i64 0,.int .i64 0,.snil]:=by kernel_rfl
@[simp] theorem za97:I97.zagg=true:=by kernel_rfl
@[simp] theorem ag97:zbc I97.desc=true:=by kernel_rfl
@[simp] theorem st97:za2 I97.desc=true:=by kernel_rfl
@[simp] theorem fk97:zaR Tryz.prog (fieldsOf I97.desc)=true:=by kernel_rfl
def F97x0:Field:=(zB I97 0).getD default
@[simp] theorem zPD:zB I97 0=some F97x0:=by kernel_rfl
@[simp] theorem zOL:F97x0.type=31:=by kernel_rfl
@[simp] theorem zPl:F97x0.offset=0:=by kernel_rfl
def F97x1:Field:=(zB I97 1).getD default
@[simp] theorem zPC:zB I97 1=some F97x1:=by kernel_rfl
@[simp] theorem zOK:F97x1.type=31:=by kernel_rfl
@[simp] theorem zPk:F97x1.offset=5:=by kernel_rfl
def I98:TI:=(ti Tryz.prog 98).getD ⟨.bool,0,0,[],false⟩
@[simp] theorem ti98:ti Tryz.prog 98=some I98:=by kernel_rfl
@[simp] theorem si98:I98.size=1:=by kernel_rfl
@[simp] theorem by98:I98.bytes=24:=by kernel_rfl
@[simp] theorem ze98:I98.zero=[.snil]:=by kernel_rfl
@[simp] theorem za98:I98.zagg=false:=by kernel_rfl
@[simp] theorem de98:I98.desc=.slice 97:=by kernel_rfl
def I154:TI:=(ti Tryz.prog 154).getD ⟨.bool,0,0,[],false⟩
@[simp] theorem zSt:ti Tryz.prog 154=some I154:=by kernel_rfl
@[simp] theorem zS7:I154.size=1:=by kernel_rfl
@[simp] theorem zTf:I154.bytes=8:=by kernel_rfl
@[simp] theorem zRV:I154.zero=[.nilmap]:=by kernel_rfl
@[simp] theorem zSa:I154.zagg=false:=by kernel_rfl
@[simp] theorem zSX:I154.desc=.map 3 4:=by kernel_rfl
def I156:TI:=(ti Tryz.prog 156).getD ⟨.bool,0,0,[],false⟩
@[simp] theorem zSs:ti Tryz.prog 156=some I156:=by kernel_rfl
@[simp] theorem zS6:I156.size=1:=by kernel_rfl
@[simp] theorem zTe:I156.bytes=24:=by kernel_rfl
@[simp] theorem zRU:I156.zero=[.snil]:=by kernel_rfl
@[simp] theorem zRZ:I156.zagg=false:=by kernel_rfl
@[simp] theorem zSW:I156.desc=.slice 4:=by kernel_rfl
def I158:TI:=(ti Tryz.prog 158).getD ⟨.bool,0,0,[],false⟩
@[simp] theorem zSr:ti Tryz.prog 158=some I158:=by kernel_rfl
@[simp] theorem zS5:I158.size=4:=by kernel_rfl
@[simp] theorem zTd:I158.bytes=96:=by kernel_rfl
@[simp] theorem zRT:I158.zero=[.snil,.snil,.snil,.snil]:=by kernel_rfl
@[simp] theorem zRY:I158.zagg=true:=by kernel_rfl
@[simp] theorem zTk:zbc I158.desc=true:=by kernel_rfl
@[simp] theorem zSz:za2 I158.desc=true:=by kernel_rfl
@[simp] theorem zSR:zaR Tryz.prog (fieldsOf I158.desc)=true:=by kernel_rfl
def F158x0:Field:=(zB I158 0).getD default
@[simp] theorem zMG:zB I158 0=some F158x0:=by kernel_rfl
@[simp] theorem zM2:F158x0.type=28:=by kernel_rfl
@[simp] theorem zM9:F158x0.offset=0:=by kernel_rfl
def F158x1:Field:=(zB I158 1).getD default
@[simp] theorem zMF:zB I158 1=some F158x1:=by kernel_rfl
@[simp] theorem zM1:F158x1.type=22:=by kernel_rfl
@[simp] theorem zM8:F158x1.offset=2:=by kernel_rfl
def F158x2:Field:=(zB I158 2).getD default
@[simp] theorem zME:zB I158 2=some F158x2:=by kernel_rfl
@[simp] theorem zM0:F158x2.type=156:=by kernel_rfl
@[simp] theorem zM7:F158x2.offset=3:=by kernel_rfl
def I159:TI:=(ti Tryz.prog 159).getD ⟨.bool,0,0,[],false⟩
@[simp] theorem zSq:ti Tryz.prog 159=some I159:=by kernel_rfl
@[simp] theorem zS4:I159.size=1:=by kernel_rfl
@[simp] theorem zTc:I159.bytes=8:=by kernel_rfl
@[simp] theorem zRS:I159.zero=[.nilFunc]:=by kernel_rfl
@[simp] theorem zRX:I159.zagg=false:=by kernel_rfl
@[simp] theorem zTj:zbc I159.desc=false:=by kernel_rfl
def I171:TI:=(ti Tryz.prog 171).getD ⟨.bool,0,0,[],false⟩
@[simp] theorem zSp:ti Tryz.prog 171=some I171:=by kernel_rfl
@[simp] theorem zS3:I171.size=3:=by kernel_rfl
@[simp] theorem zTb:I171.bytes=48:=by kernel_rfl
@[simp] theorem zRR:I171.zero=[.int .i64 0,.str [],.snil]:=by kernel_rfl
@[simp] theorem zRW:I171.zagg=true:=by kernel_rfl
@[simp] theorem zTi:zbc I171.desc=true:=by kernel_rfl
@[simp] theorem zSy:za2 I171.desc=true:=by kernel_rfl
@[simp] theorem zSQ:zaR Tryz.prog (fieldsOf I171.desc)=true:=by kernel_rfl
def F171x0:Field:=(zB I171 0).getD default
@[simp] theorem zMD:zB I171 0=some F171x0:=by kernel_rfl
@[simp] theorem zMz:F171x0.type=3:=by kernel_rfl
@[simp] theorem zM6:F171x0.offset=0:=by kernel_rfl
def F171x1:Field:=(zB I171 1).getD default
@[simp] theorem zMC:zB I171 1=some F171x1:=by kernel_rfl
@[simp] theorem zMy:F171x1.type=9:=by kernel_rfl
@[simp] theorem zM5:F171x1.offset=1:=by kernel_rfl
def F171x2:Field:=(zB I171 2).getD default
@[simp] theorem zMB:zB I171 2=some F171x2:=by kernel_rfl
@[simp] theorem zMx:F171x2.type=29:=by kernel_rfl
@[simp] theorem zM4:F171x2.offset=2:=by kernel_rfl
end Go.Proofs.YtfgmnebfhemnpaaGreat
