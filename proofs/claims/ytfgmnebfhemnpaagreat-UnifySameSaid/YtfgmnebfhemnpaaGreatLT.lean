import Derived.Test.YtfgmnebfhemnpaaGreatJH
import Derived.Test.YtfgmnebfhemnpaaGreatRows
set_option linter.all false
noncomputable section
namespace Go.Proofs.YtfgmnebfhemnpaaGreat
open Go.J
def I3:TI:=(ti Tryz.prog 3).getD ⟨.bool,0,0,[],false⟩
@[simp] theorem ti3:ti Tryz.prog 3=some I3:=by kernel_rfl
@[simp] theorem si3:I3.size=1:=by kernel_rfl
@[simp] theorem by3:I3.bytes=8:=by kernel_rfl
@[simp] theorem ze3:I3.zero=[.int .i64 0]:=by kernel_rfl
@[simp] theorem za3:I3.zagg=false:=by kernel_rfl
@[simp] theorem de3:I3.desc=.int .i64:=by kernel_rfl
def I4:TI:=(ti Tryz.prog 4).getD ⟨.bool,0,0,[],false⟩
@[simp] theorem ti4:ti Tryz.prog 4=some I4:=by kernel_rfl
@[simp] theorem si4:I4.size=1:=by kernel_rfl
@[simp] theorem by4:I4.bytes=1:=by kernel_rfl
@[simp] theorem ze4:I4.zero=[.bool false]:=by kernel_rfl
@[simp] theorem za4:I4.zagg=false:=by kernel_rfl
@[simp] theorem de4:I4.desc=.bool:=by kernel_rfl
def I5:TI:=(ti Tryz.prog 5).getD ⟨.bool,0,0,[],false⟩
@[simp] theorem ti5:ti Tryz.prog 5=some I5:=by kernel_rfl
@[simp] theorem si5:I5.size=1:=by kernel_rfl
@[simp] theorem by5:I5.bytes=1:=by kernel_rfl
@[simp] theorem ze5:I5.zero=[.int .u8 0]:=by kernel_rfl
@[simp] theorem za5:I5.zagg=false:=by kernel_rfl
@[simp] theorem de5:I5.desc=.int .u8:=by kernel_rfl
def I9:TI:=(ti Tryz.prog 9).getD ⟨.bool,0,0,[],false⟩
@[simp] theorem ti9:ti Tryz.prog 9=some I9:=by kernel_rfl
@[simp] theorem si9:I9.size=1:=by kernel_rfl
@[simp] theorem by9:I9.bytes=16:=by kernel_rfl
@[simp] theorem ze9:I9.zero=[.str []]:=by kernel_rfl
@[simp] theorem za9:I9.zagg=false:=by kernel_rfl
@[simp] theorem de9:I9.desc=.string:=by kernel_rfl
def I22:TI:=(ti Tryz.prog 22).getD ⟨.bool,0,0,[],false⟩
@[simp] theorem ti22:ti Tryz.prog 22=some I22:=by kernel_rfl
@[simp] theorem si22:I22.size=1:=by kernel_rfl
@[simp] theorem by22:I22.bytes=24:=by kernel_rfl
@[simp] theorem ze22:I22.zero=[.snil]:=by kernel_rfl
@[simp] theorem za22:I22.zagg=false:=by kernel_rfl
@[simp] theorem de22:I22.desc=.slice 3:=by kernel_rfl
def I25:TI:=(ti Tryz.prog 25).getD ⟨.bool,0,0,[],false⟩
@[simp] theorem ti25:ti Tryz.prog 25=some I25:=by kernel_rfl
@[simp] theorem si25:I25.size=1:=by kernel_rfl
@[simp] theorem by25:I25.bytes=24:=by kernel_rfl
@[simp] theorem ze25:I25.zero=[.snil]:=by kernel_rfl
@[simp] theorem za25:I25.zagg=false:=by kernel_rfl
@[simp] theorem de25:I25.desc=.slice 62:=by kernel_rfl
def I26:TI:=(ti Tryz.prog 26).getD ⟨.bool,0,0,[],false⟩
@[simp] theorem ti26:ti Tryz.prog 26=some I26:=by kernel_rfl
@[simp] theorem si26:I26.size=1:=by kernel_rfl
@[simp] theorem by26:I26.bytes=24:=by kernel_rfl
@[simp] theorem ze26:I26.zero=[.snil]:=by kernel_rfl
@[simp] theorem za26:I26.zagg=false:=by kernel_rfl
@[simp] theorem de26:I26.desc=.slice 72:=by kernel_rfl
def I28:TI:=(ti Tryz.prog 28).getD ⟨.bool,0,0,[],false⟩
@[simp] theorem ti28:ti Tryz.prog 28=some I28:=by kernel_rfl
@[simp] theorem si28:I28.size=2:=by kernel_rfl
@[simp] theorem by28:I28.bytes=48:=by kernel_rfl
@[simp] theorem ze28:I28.zero=[.snil,.snil]:=by kernel_rfl
@[simp] theorem za28:I28.zagg=true:=by kernel_rfl
@[simp] theorem ag28:zba I28.desc=true:=by kernel_rfl
@[simp] theorem st28:za2 I28.desc=true:=by kernel_rfl
@[simp] theorem fk28:zaQ Tryz.prog (fieldsOf I28.desc)=true:=by kernel_rfl
def F28x0:Field:=(zB I28 0).getD default
@[simp] theorem zQI:zB I28 0=some F28x0:=by kernel_rfl
@[simp] theorem zPQ:F28x0.type=25:=by kernel_rfl
@[simp] theorem zQq:F28x0.offset=0:=by kernel_rfl
def F28x1:Field:=(zB I28 1).getD default
@[simp] theorem zQH:zB I28 1=some F28x1:=by kernel_rfl
@[simp] theorem zPP:F28x1.type=26:=by kernel_rfl
@[simp] theorem zQp:F28x1.offset=1:=by kernel_rfl
def I29:TI:=(ti Tryz.prog 29).getD ⟨.bool,0,0,[],false⟩
@[simp] theorem ti29:ti Tryz.prog 29=some I29:=by kernel_rfl
@[simp] theorem si29:I29.size=1:=by kernel_rfl
@[simp] theorem by29:I29.bytes=24:=by kernel_rfl
@[simp] theorem ze29:I29.zero=[.snil]:=by kernel_rfl
@[simp] theorem za29:I29.zagg=false:=by kernel_rfl
@[simp] theorem de29:I29.desc=.slice 31:=by kernel_rfl
def I31:TI:=(ti Tryz.prog 31).getD ⟨.bool,0,0,[],false⟩
@[simp] theorem ti31:ti Tryz.prog 31=some I31:=by kernel_rfl
@[simp] theorem si31:I31.size=5:=by kernel_rfl
@[simp] theorem by31:I31.bytes=64:=by kernel_rfl
@[simp] theorem ze31:I31.zero=[.int .i64 0,.str [],.int .i64 0,.int .i64 0,.snil]:=by kernel_rfl
@[simp] theorem za31:I31.zagg=true:=by kernel_rfl
@[simp] theorem ag31:zba I31.desc=true:=by kernel_rfl
@[simp] theorem st31:za2 I31.desc=true:=by kernel_rfl
@[simp] theorem fk31:zaQ Tryz.prog (fieldsOf I31.desc)=true:=by kernel_rfl
def F31x0:Field:=(zB I31 0).getD default
@[simp] theorem zQG:zB I31 0=some F31x0:=by kernel_rfl
@[simp] theorem zPO:F31x0.type=3:=by kernel_rfl
@[simp] theorem zQo:F31x0.offset=0:=by kernel_rfl
def F31x1:Field:=(zB I31 1).getD default
@[simp] theorem zQF:zB I31 1=some F31x1:=by kernel_rfl
@[simp] theorem zPN:F31x1.type=9:=by kernel_rfl
@[simp] theorem zQn:F31x1.offset=1:=by kernel_rfl
def F31x2:Field:=(zB I31 2).getD default
@[simp] theorem zQE:zB I31 2=some F31x2:=by kernel_rfl
@[simp] theorem zPM:F31x2.type=3:=by kernel_rfl
@[simp] theorem zQm:F31x2.offset=2:=by kernel_rfl
def F31x3:Field:=(zB I31 3).getD default
@[simp] theorem zQD:zB I31 3=some F31x3:=by kernel_rfl
@[simp] theorem zPL:F31x3.type=3:=by kernel_rfl
@[simp] theorem zQl:F31x3.offset=3:=by kernel_rfl
def F31x4:Field:=(zB I31 4).getD default
@[simp] theorem zQC:zB I31 4=some F31x4:=by kernel_rfl
@[simp] theorem zPK:F31x4.type=29:=by kernel_rfl
@[simp] theorem zQk:F31x4.offset=4:=by kernel_rfl
def I35:TI:=(ti Tryz.prog 35).getD ⟨.bool,0,0,[],false⟩
@[simp] theorem ti35:ti Tryz.prog 35=some I35:=by kernel_rfl
@[simp] theorem si35:I35.size=1:=by kernel_rfl
@[simp] theorem by35:I35.bytes=8:=by kernel_rfl
@[simp] theorem ze35:I35.zero=[.int .i64 0]:=by kernel_rfl
@[simp] theorem za35:I35.zagg=false:=by kernel_rfl
@[simp] theorem de35:I35.desc=.int .i64:=by kernel_rfl
def I47:TI:=(ti Tryz.prog 47).getD ⟨.bool,0,0,[],false⟩
@[simp] theorem ti47:ti Tryz.prog 47=some I47:=by kernel_rfl
@[simp] theorem si47:I47.size=2:=by kernel_rfl
@[simp] theorem by47:I47.bytes=32:=by kernel_rfl
@[simp] theorem ze47:I47.zero=[.snil,.int .i64 0]:=by kernel_rfl
@[simp] theorem za47:I47.zagg=true:=by kernel_rfl
@[simp] theorem ag47:zba I47.desc=true:=by kernel_rfl
@[simp] theorem st47:za2 I47.desc=true:=by kernel_rfl
@[simp] theorem fk47:zaQ Tryz.prog (fieldsOf I47.desc)=true:=by kernel_rfl
def F47x0:Field:=(zB I47 0).getD default
@[simp] theorem zQB:zB I47 0=some F47x0:=by kernel_rfl
@[simp] theorem zPJ:F47x0.type=22:=by kernel_rfl
@[simp] theorem zQj:F47x0.offset=0:=by kernel_rfl
def F47x1:Field:=(zB I47 1).getD default
@[simp] theorem zQA:zB I47 1=some F47x1:=by kernel_rfl
@[simp] theorem zPI:F47x1.type=3:=by kernel_rfl
@[simp] theorem zQi:F47x1.offset=1:=by kernel_rfl
def I48:TI:=(ti Tryz.prog 48).getD ⟨.bool,0,0,[],false⟩
@[simp] theorem ti48:ti Tryz.prog 48=some I48:=by kernel_rfl
@[simp] theorem si48:I48.size=1:=by kernel_rfl
@[simp] theorem by48:I48.bytes=24:=by kernel_rfl
@[simp] theorem ze48:I48.zero=[.snil]:=by kernel_rfl
@[simp] theorem za48:I48.zagg=false:=by kernel_rfl
@[simp] theorem de48:I48.desc=.slice 83:=by kernel_rfl
def I57:TI:=(ti Tryz.prog 57).getD ⟨.bool,0,0,[],false⟩
@[simp] theorem ti57:ti Tryz.prog 57=some I57:=by kernel_rfl
@[simp] theorem si57:I57.size=1:=by kernel_rfl
@[simp] theorem by57:I57.bytes=24:=by kernel_rfl
@[simp] theorem ze57:I57.zero=[.snil]:=by kernel_rfl
@[simp] theorem za57:I57.zagg=false:=by kernel_rfl
@[simp] theorem de57:I57.desc=.slice 91:=by kernel_rfl
def I62:TI:=(ti Tryz.prog 62).getD ⟨.bool,0,0,[],false⟩
@[simp] theorem ti62:ti Tryz.prog 62=some I62:=by kernel_rfl
@[simp] theorem si62:I62.size=8:=by kernel_rfl
@[simp] theorem by62:I62.bytes=88:=by kernel_rfl
@[simp] theorem ze62:I62.zero=[.bool false,.int .i64 0,.str [],.int .i64 0,.int .i64 0,.snil,.int .i64 0,.bool false]:=by kernel_rfl
@[simp] theorem za62:I62.zagg=true:=by kernel_rfl
@[simp] theorem ag62:zba I62.desc=true:=by kernel_rfl
@[simp] theorem st62:za2 I62.desc=true:=by kernel_rfl
@[simp] theorem fk62:zaQ Tryz.prog (fieldsOf I62.desc)=true:=by kernel_rfl
def F62x0:Field:=(zB I62 0).getD default
@[simp] theorem zQ9:zB I62 0=some F62x0:=by kernel_rfl
@[simp] theorem zPH:F62x0.type=4:=by kernel_rfl
@[simp] theorem zQh:F62x0.offset=0:=by kernel_rfl
def F62x1:Field:=(zB I62 1).getD default
@[simp] theorem zQ8:zB I62 1=some F62x1:=by kernel_rfl
@[simp] theorem zPG:F62x1.type=31:=by kernel_rfl
@[simp] theorem zQg:F62x1.offset=1:=by kernel_rfl
def F62x2:Field:=(zB I62 2).getD default
@[simp] theorem zQ7:zB I62 2=some F62x2:=by kernel_rfl
@[simp] theorem zPF:F62x2.type=3:=by kernel_rfl
@[simp] theorem zQf:F62x2.offset=6:=by kernel_rfl
def F62x3:Field:=(zB I62 3).getD default
@[simp] theorem zQ6:zB I62 3=some F62x3:=by kernel_rfl
@[simp] theorem zPE:F62x3.type=4:=by kernel_rfl
@[simp] theorem zQe:F62x3.offset=7:=by kernel_rfl
def I72:TI:=(ti Tryz.prog 72).getD ⟨.bool,0,0,[],false⟩
@[simp] theorem ti72:ti Tryz.prog 72=some I72:=by kernel_rfl
@[simp] theorem si72:I72.size=10:=by kernel_rfl
@[simp] theorem by72:I72.bytes=104:=by kernel_rfl
@[simp] theorem ze72:I72.zero=[.int .i64 0,.bool false,.int .i64 0,.str [],.int .i64 0,.int .i64 0,.snil,.int .i64 0,.bool false,.bool false]:=by kernel_rfl
@[simp] theorem za72:I72.zagg=true:=by kernel_rfl
@[simp] theorem ag72:zba I72.desc=true:=by kernel_rfl
@[simp] theorem st72:za2 I72.desc=true:=by kernel_rfl
@[simp] theorem fk72:zaQ Tryz.prog (fieldsOf I72.desc)=true:=by kernel_rfl
def F72x0:Field:=(zB I72 0).getD default
@[simp] theorem zQ5:zB I72 0=some F72x0:=by kernel_rfl
@[simp] theorem zPD:F72x0.type=3:=by kernel_rfl
@[simp] theorem zQd:F72x0.offset=0:=by kernel_rfl
def F72x1:Field:=(zB I72 1).getD default
@[simp] theorem zQ4:zB I72 1=some F72x1:=by kernel_rfl
@[simp] theorem zPC:F72x1.type=62:=by kernel_rfl
@[simp] theorem zQc:F72x1.offset=1:=by kernel_rfl
def F72x2:Field:=(zB I72 2).getD default
@[simp] theorem zQ3:zB I72 2=some F72x2:=by kernel_rfl
@[simp] theorem zPB:F72x2.type=4:=by kernel_rfl
@[simp] theorem zQb:F72x2.offset=9:=by kernel_rfl
def I74:TI:=(ti Tryz.prog 74).getD ⟨.bool,0,0,[],false⟩
@[simp] theorem ti74:ti Tryz.prog 74=some I74:=by kernel_rfl
@[simp] theorem si74:I74.size=1:=by kernel_rfl
@[simp] theorem by74:I74.bytes=8:=by kernel_rfl
@[simp] theorem ze74:I74.zero=[.nilptr]:=by kernel_rfl
@[simp] theorem za74:I74.zagg=false:=by kernel_rfl
@[simp] theorem de74:I74.desc=.pointer 28:=by kernel_rfl
def I80:TI:=(ti Tryz.prog 80).getD ⟨.bool,0,0,[],false⟩
@[simp] theorem ti80:ti Tryz.prog 80=some I80:=by kernel_rfl
@[simp] theorem si80:I80.size=1:=by kernel_rfl
@[simp] theorem by80:I80.bytes=24:=by kernel_rfl
@[simp] theorem ze80:I80.zero=[.snil]:=by kernel_rfl
@[simp] theorem za80:I80.zagg=false:=by kernel_rfl
@[simp] theorem de80:I80.desc=.slice 9:=by kernel_rfl
def I81:TI:=(ti Tryz.prog 81).getD ⟨.bool,0,0,[],false⟩
@[simp] theorem ti81:ti Tryz.prog 81=some I81:=by kernel_rfl
@[simp] theorem si81:I81.size=1:=by kernel_rfl
@[simp] theorem by81:I81.bytes=24:=by kernel_rfl
@[simp] theorem ze81:I81.zero=[.snil]:=by kernel_rfl
@[simp] theorem za81:I81.zagg=false:=by kernel_rfl
@[simp] theorem de81:I81.desc=.slice 171:=by kernel_rfl
def I83:TI:=(ti Tryz.prog 83).getD ⟨.bool,0,0,[],false⟩
@[simp] theorem ti83:ti Tryz.prog 83=some I83:=by kernel_rfl
@[simp] theorem si83:I83.size=4:=by kernel_rfl
@[simp] theorem by83:I83.bytes=72:=by kernel_rfl
@[simp] theorem ze83:I83.zero=[.int .i64 0,.str [],.snil,.snil]:=by kernel_rfl
@[simp] theorem za83:I83.zagg=true:=by kernel_rfl
@[simp] theorem ag83:zba I83.desc=true:=by kernel_rfl
@[simp] theorem st83:za2 I83.desc=true:=by kernel_rfl
@[simp] theorem fk83:zaQ Tryz.prog (fieldsOf I83.desc)=true:=by kernel_rfl
def F83x0:Field:=(zB I83 0).getD default
@[simp] theorem zQ2:zB I83 0=some F83x0:=by kernel_rfl
@[simp] theorem zPA:F83x0.type=3:=by kernel_rfl
@[simp] theorem zQa:F83x0.offset=0:=by kernel_rfl
def F83x1:Field:=(zB I83 1).getD default
@[simp] theorem zQ1:zB I83 1=some F83x1:=by kernel_rfl
@[simp] theorem zP9:F83x1.type=9:=by kernel_rfl
@[simp] theorem zPZ:F83x1.offset=1:=by kernel_rfl
def F83x2:Field:=(zB I83 2).getD default
@[simp] theorem zQ0:zB I83 2=some F83x2:=by kernel_rfl
@[simp] theorem zP8:F83x2.type=80:=by kernel_rfl
@[simp] theorem zPY:F83x2.offset=2:=by kernel_rfl
def F83x3:Field:=(zB I83 3).getD default
@[simp] theorem zQz:zB I83 3=some F83x3:=by kernel_rfl
@[simp] theorem zP7:F83x3.type=81:=by kernel_rfl
@[simp] theorem zPX:F83x3.offset=3:=by kernel_rfl
def I84:TI:=(ti Tryz.prog 84).getD ⟨.bool,0,0,[],false⟩
@[simp] theorem ti84:ti Tryz.prog 84=some I84:=by kernel_rfl
@[simp] theorem si84:I84.size=1:=by kernel_rfl
@[simp] theorem by84:I84.bytes=8:=by kernel_rfl
@[simp] theorem ze84:I84.zero=[.int .u64 0]:=by kernel_rfl
@[simp] theorem za84:I84.zagg=false:=by kernel_rfl
@[simp] theorem de84:I84.desc=.int .u64:=by kernel_rfl
def I91:TI:=(ti Tryz.prog 91).getD ⟨.bool,0,0,[],false⟩
@[simp] theorem ti91:ti Tryz.prog 91=some I91:=by kernel_rfl
@[simp] theorem si91:I91.size=6:=by kernel_rfl
@[simp] theorem by91:I91.bytes=72:=by kernel_rfl
@[simp] theorem ze91:I91.zero=[.int .i64 0,.int .i64 0,.str [],.int .i64 0,.int .i64 0,.snil]:=by kernel_rfl
@[simp] theorem za91:I91.zagg=true:=by kernel_rfl
@[simp] theorem ag91:zba I91.desc=true:=by kernel_rfl
@[simp] theorem st91:za2 I91.desc=true:=by kernel_rfl
@[simp] theorem fk91:zaQ Tryz.prog (fieldsOf I91.desc)=true:=by kernel_rfl
def F91x0:Field:=(zB I91 0).getD default
@[simp] theorem zQy:zB I91 0=some F91x0:=by kernel_rfl
@[simp] theorem zP6:F91x0.type=3:=by kernel_rfl
@[simp] theorem zPW:F91x0.offset=0:=by kernel_rfl
def F91x1:Field:=(zB I91 1).getD default
@[simp] theorem zQx:zB I91 1=some F91x1:=by kernel_rfl
@[simp] theorem zP5:F91x1.type=31:=by kernel_rfl
@[simp] theorem zPV:F91x1.offset=1:=by kernel_rfl
def I93:TI:=(ti Tryz.prog 93).getD ⟨.bool,0,0,[],false⟩
@[simp] theorem ti93:ti Tryz.prog 93=some I93:=by kernel_rfl
@[simp] theorem si93:I93.size=1:=by kernel_rfl
@[simp] theorem by93:I93.bytes=8:=by kernel_rfl
@[simp] theorem ze93:I93.zero=[.nilptr]:=by kernel_rfl
@[simp] theorem za93:I93.zagg=false:=by kernel_rfl
@[simp] theorem de93:I93.desc=.pointer 95:=by kernel_rfl
def I95:TI:=(ti Tryz.prog 95).getD ⟨.bool,0,0,[],false⟩
@[simp] theorem ti95:ti Tryz.prog 95=some I95:=by kernel_rfl
@[simp] theorem si95:I95.size=1:=by kernel_rfl
@[simp] theorem by95:I95.bytes=8:=by kernel_rfl
@[simp] theorem ze95:I95.zero=[.nilptr]:=by kernel_rfl
@[simp] theorem za95:I95.zagg=true:=by kernel_rfl
@[simp] theorem ag95:zba I95.desc=true:=by kernel_rfl
@[simp] theorem st95:za2 I95.desc=true:=by kernel_rfl
@[simp] theorem fk95:zaQ Tryz.prog (fieldsOf I95.desc)=true:=by kernel_rfl
def F95x0:Field:=(zB I95 0).getD default
@[simp] theorem zQw:zB I95 0=some F95x0:=by kernel_rfl
@[simp] theorem zP4:F95x0.type=74:=by kernel_rfl
@[simp] theorem zPU:F95x0.offset=0:=by kernel_rfl
def I97:TI:=(ti Tryz.prog 97).getD ⟨.bool,0,0,[],false⟩
@[simp] theorem ti97:ti Tryz.prog 97=some I97:=by kernel_rfl
@[simp] theorem zTu:I97.size=10:=by kernel_rfl
@[simp] theorem by97:I97.bytes=128:=by kernel_rfl
@[simp] theorem ze97:I97.zero=[.int .i64 0,.str [],.int .i64 0,.int .i64 0,.snil,.int .i64 0,.str [],.int .i64 0,.int .i64 0,.snil]:=by kernel_rfl
@[simp] theorem za97:I97.zagg=true:=by kernel_rfl
@[simp] theorem ag97:zba I97.desc=true:=by kernel_rfl
@[simp] theorem st97:za2 I97.desc=true:=by kernel_rfl
@[simp] theorem fk97:zaQ Tryz.prog (fieldsOf I97.desc)=true:=by kernel_rfl
def F97x0:Field:=(zB I97 0).getD default
@[simp] theorem zQv:zB I97 0=some F97x0:=by kernel_rfl
@[simp] theorem zP3:F97x0.type=31:=by kernel_rfl
@[simp] theorem zPT:F97x0.offset=0:=by kernel_rfl
def F97x1:Field:=(zB I97 1).getD default
@[simp] theorem zQu:zB I97 1=some F97x1:=by kernel_rfl
@[simp] theorem zP2:F97x1.type=31:=by kernel_rfl
@[simp] theorem zPS:F97x1.offset=5:=by kernel_rfl
def I98:TI:=(ti Tryz.prog 98).getD ⟨.bool,0,0,[],false⟩
@[simp] theorem ti98:ti Tryz.prog 98=some I98:=by kernel_rfl
@[simp] theorem si98:I98.size=1:=by kernel_rfl
@[simp] theorem by98:I98.bytes=24:=by kernel_rfl
@[simp] theorem ze98:I98.zero=[.snil]:=by kernel_rfl
@[simp] theorem za98:I98.zagg=false:=by kernel_rfl
@[simp] theorem de98:I98.desc=.slice 97:=by kernel_rfl
def I154:TI:=(ti Tryz.prog 154).getD ⟨.bool,0,0,[],false⟩
@[simp] theorem zTl:ti Tryz.prog 154=some I154:=by kernel_rfl
@[simp] theorem zT0:I154.size=1:=by kernel_rfl
@[simp] theorem zTW:I154.bytes=8:=by kernel_rfl
@[simp] theorem zSN:I154.zero=[.nilmap]:=by kernel_rfl
@[simp] theorem zSS:I154.zagg=false:=by kernel_rfl
@[simp] theorem zTQ:I154.desc=.map 3 4:=by kernel_rfl
def I156:TI:=(ti Tryz.prog 156).getD ⟨.bool,0,0,[],false⟩
@[simp] theorem zTk:ti Tryz.prog 156=some I156:=by kernel_rfl
@[simp] theorem zTz:I156.size=1:=by kernel_rfl
@[simp] theorem zTV:I156.bytes=24:=by kernel_rfl
@[simp] theorem zSM:I156.zero=[.snil]:=by kernel_rfl
@[simp] theorem zSR:I156.zagg=false:=by kernel_rfl
@[simp] theorem zTP:I156.desc=.slice 4:=by kernel_rfl
def I158:TI:=(ti Tryz.prog 158).getD ⟨.bool,0,0,[],false⟩
@[simp] theorem zTj:ti Tryz.prog 158=some I158:=by kernel_rfl
@[simp] theorem zTx:I158.size=4:=by kernel_rfl
@[simp] theorem zTU:I158.bytes=96:=by kernel_rfl
@[simp] theorem zSL:I158.zero=[.snil,.snil,.snil,.snil]:=by kernel_rfl
@[simp] theorem zSQ:I158.zagg=true:=by kernel_rfl
@[simp] theorem zUb:zba I158.desc=true:=by kernel_rfl
@[simp] theorem zTr:za2 I158.desc=true:=by kernel_rfl
@[simp] theorem zTK:zaQ Tryz.prog (fieldsOf I158.desc)=true:=by kernel_rfl
def F158x0:Field:=(zB I158 0).getD default
@[simp] theorem zNy:zB I158 0=some F158x0:=by kernel_rfl
@[simp] theorem zNk:F158x0.type=28:=by kernel_rfl
@[simp] theorem zNr:F158x0.offset=0:=by kernel_rfl
def F158x1:Field:=(zB I158 1).getD default
@[simp] theorem zNx:zB I158 1=some F158x1:=by kernel_rfl
@[simp] theorem zNj:F158x1.type=22:=by kernel_rfl
@[simp] theorem zNq:F158x1.offset=2:=by kernel_rfl
def F158x2:Field:=(zB I158 2).getD default
@[simp] theorem zNw:zB I158 2=some F158x2:=by kernel_rfl
@[simp] theorem zNi:F158x2.type=156:=by kernel_rfl
@[simp] theorem zNp:F158x2.offset=3:=by kernel_rfl
def I159:TI:=(ti Tryz.prog 159).getD ⟨.bool,0,0,[],false⟩
@[simp] theorem zTi:ti Tryz.prog 159=some I159:=by kernel_rfl
@[simp] theorem zTw:I159.size=1:=by kernel_rfl
@[simp] theorem zTT:I159.bytes=8:=by kernel_rfl
@[simp] theorem zSK:I159.zero=[.nilFunc]:=by kernel_rfl
@[simp] theorem zSP:I159.zagg=false:=by kernel_rfl
@[simp] theorem zUa:zba I159.desc=false:=by kernel_rfl
def I171:TI:=(ti Tryz.prog 171).getD ⟨.bool,0,0,[],false⟩
@[simp] theorem zTh:ti Tryz.prog 171=some I171:=by kernel_rfl
@[simp] theorem zTv:I171.size=3:=by kernel_rfl
@[simp] theorem zTS:I171.bytes=48:=by kernel_rfl
@[simp] theorem zSJ:I171.zero=[.int .i64 0,.str [],.snil]:=by kernel_rfl
@[simp] theorem zSO:I171.zagg=true:=by kernel_rfl
@[simp] theorem zTZ:zba I171.desc=true:=by kernel_rfl
@[simp] theorem zTq:za2 I171.desc=true:=by kernel_rfl
@[simp] theorem zTJ:zaQ Tryz.prog (fieldsOf I171.desc)=true:=by kernel_rfl
def F171x0:Field:=(zB I171 0).getD default
@[simp] theorem zNv:zB I171 0=some F171x0:=by kernel_rfl
@[simp] theorem zNh:F171x0.type=3:=by kernel_rfl
@[simp] theorem zNo:F171x0.offset=0:=by kernel_rfl
def F171x1:Field:=(zB I171 1).getD default
@[simp] theorem zNu:zB I171 1=some F171x1:=by kernel_rfl
@[simp] theorem zNg:F171x1.type=9:=by kernel_rfl
@[simp] theorem zNn:F171x1.offset=1:=by kernel_rfl
def F171x2:Field:=(zB I171 2).getD default
@[simp] theorem zNt:zB I171 2=some F171x2:=by kernel_rfl
@[simp] theorem zNf:F171x2.type=29:=by kernel_rfl
@[simp] theorem zNm:F171x2.offset=2:=by kernel_rfl
end Go.Proofs.YtfgmnebfhemnpaaGreat
