import Derived.Test.YtpcmebclpindjaaGreatJH
import Derived.Test.YtpcmebclpindjaaGreatRows
set_option linter.all false
noncomputable section
namespace Go.Proofs.YtpcmebclpindjaaGreat
open Go.J
def I3:TI:=(ti Tryz.prog 3).getD ⟨.bool,0,0,[],false⟩
@[simp] theorem ti3:ti Tryz.prog 3=some I3:=by kernel_rfl
@[simp] theorem si3:I3.size=1:=by kernel_rfl
@[simp] theorem by3:I3.bytes=8:=by kernel_rfl
@[simp] theorem ze3:I3.zero=[.int .i64 0]:=by kernel_rfl
@[simp] theorem za3:I3.zagg=false:=by kernel_rfl
@[simp] theorem de3:I3.desc=.int .i64:=by kernel_rfl
def I4:TI:=(ti Tryz.prog 4).getD ⟨.bool,0,0,[],false⟩
@[simp] theorem ti4:ti Tryz.prog 4=some I4:=by kernel_rfl
@[simp] theorem si4:I4.size=1:=by kernel_rfl
@[simp] theorem by4:I4.bytes=1:=by kernel_rfl
@[simp] theorem ze4:I4.zero=[.bool false]:=by kernel_rfl
@[simp] theorem za4:I4.zagg=false:=by kernel_rfl
@[simp] theorem de4:I4.desc=.bool:=by kernel_rfl
def I5:TI:=(ti Tryz.prog 5).getD ⟨.bool,0,0,[],false⟩
@[simp] theorem ti5:ti Tryz.prog 5=some I5:=by kernel_rfl
@[simp] theorem si5:I5.size=1:=by kernel_rfl
@[simp] theorem by5:I5.bytes=1:=by kernel_rfl
@[simp] theorem ze5:I5.zero=[.int .u8 0]:=by kernel_rfl
@[simp] theorem za5:I5.zagg=false:=by kernel_rfl
@[simp] theorem de5:I5.desc=.int .u8:=by kernel_rfl
def I9:TI:=(ti Tryz.prog 9).getD ⟨.bool,0,0,[],false⟩
@[simp] theorem ti9:ti Tryz.prog 9=some I9:=by kernel_rfl
@[simp] theorem si9:I9.size=1:=by kernel_rfl
@[simp] theorem by9:I9.bytes=16:=by kernel_rfl
@[simp] theorem ze9:I9.zero=[.str []]:=by kernel_rfl
@[simp] theorem za9:I9.zagg=false:=by kernel_rfl
@[simp] theorem de9:I9.desc=.string:=by kernel_rfl
def I22:TI:=(ti Tryz.prog 22).getD ⟨.bool,0,0,[],false⟩
@[simp] theorem ti22:ti Tryz.prog 22=some I22:=by kernel_rfl
@[simp] theorem si22:I22.size=1:=by kernel_rfl
@[simp] theorem by22:I22.bytes=24:=by kernel_rfl
@[simp] theorem ze22:I22.zero=[.snil]:=by kernel_rfl
@[simp] theorem za22:I22.zagg=false:=by kernel_rfl
@[simp] theorem de22:I22.desc=.slice 3:=by kernel_rfl
def I27:TI:=(ti Tryz.prog 27).getD ⟨.bool,0,0,[],false⟩
@[simp] theorem ti27:ti Tryz.prog 27=some I27:=by kernel_rfl
@[simp] theorem si27:I27.size=2:=by kernel_rfl
@[simp] theorem by27:I27.bytes=32:=by kernel_rfl
@[simp] theorem ze27:I27.zero=[.snil,.int .i64 0]:=by kernel_rfl
@[simp] theorem za27:I27.zagg=true:=by kernel_rfl
@[simp] theorem ag27:zbo I27.desc=true:=by kernel_rfl
@[simp] theorem st27:zat I27.desc=true:=by kernel_rfl
@[simp] theorem fk27:zaO Tryz.prog (fieldsOf I27.desc)=true:=by kernel_rfl
def F27x0:Field:=(zi I27 0).getD default
@[simp] theorem zLZ:zi I27 0=some F27x0:=by kernel_rfl
@[simp] theorem zLo:F27x0.type=22:=by kernel_rfl
@[simp] theorem zLB:F27x0.offset=0:=by kernel_rfl
def F27x1:Field:=(zi I27 1).getD default
@[simp] theorem zLY:zi I27 1=some F27x1:=by kernel_rfl
@[simp] theorem zLn:F27x1.type=3:=by kernel_rfl
@[simp] theorem zLA:F27x1.offset=1:=by kernel_rfl
def I28:TI:=(ti Tryz.prog 28).getD ⟨.bool,0,0,[],false⟩
@[simp] theorem ti28:ti Tryz.prog 28=some I28:=by kernel_rfl
@[simp] theorem si28:I28.size=1:=by kernel_rfl
@[simp] theorem by28:I28.bytes=24:=by kernel_rfl
@[simp] theorem ze28:I28.zero=[.snil]:=by kernel_rfl
@[simp] theorem za28:I28.zagg=false:=by kernel_rfl
@[simp] theorem de28:I28.desc=.slice 30:=by kernel_rfl
def I30:TI:=(ti Tryz.prog 30).getD ⟨.bool,0,0,[],false⟩
@[simp] theorem ti30:ti Tryz.prog 30=some I30:=by kernel_rfl
@[simp] theorem si30:I30.size=5:=by kernel_rfl
@[simp] theorem by30:I30.bytes=64:=by kernel_rfl
@[simp] theorem ze30:I30.zero=[.int .i64 0,.str [],.int .i64 0,.int .i64 0,.snil]:=by kernel_rfl
@[simp] theorem za30:I30.zagg=true:=by kernel_rfl
@[simp] theorem ag30:zbo I30.desc=true:=by kernel_rfl
@[simp] theorem st30:zat I30.desc=true:=by kernel_rfl
@[simp] theorem fk30:zaO Tryz.prog (fieldsOf I30.desc)=true:=by kernel_rfl
def F30x0:Field:=(zi I30 0).getD default
@[simp] theorem zLX:zi I30 0=some F30x0:=by kernel_rfl
@[simp] theorem zLm:F30x0.type=3:=by kernel_rfl
@[simp] theorem zL9:F30x0.offset=0:=by kernel_rfl
def F30x1:Field:=(zi I30 1).getD default
@[simp] theorem zLW:zi I30 1=some F30x1:=by kernel_rfl
@[simp] theorem zLl:F30x1.type=9:=by kernel_rfl
@[simp] theorem zL8:F30x1.offset=1:=by kernel_rfl
def F30x2:Field:=(zi I30 2).getD default
@[simp] theorem zLV:zi I30 2=some F30x2:=by kernel_rfl
@[simp] theorem zLk:F30x2.type=3:=by kernel_rfl
@[simp] theorem zL7:F30x2.offset=2:=by kernel_rfl
def F30x3:Field:=(zi I30 3).getD default
@[simp] theorem zLU:zi I30 3=some F30x3:=by kernel_rfl
@[simp] theorem zLj:F30x3.type=3:=by kernel_rfl
@[simp] theorem zL6:F30x3.offset=3:=by kernel_rfl
def F30x4:Field:=(zi I30 4).getD default
@[simp] theorem zLT:zi I30 4=some F30x4:=by kernel_rfl
@[simp] theorem zLi:F30x4.type=28:=by kernel_rfl
@[simp] theorem zL5:F30x4.offset=4:=by kernel_rfl
def I32:TI:=(ti Tryz.prog 32).getD ⟨.bool,0,0,[],false⟩
@[simp] theorem ti32:ti Tryz.prog 32=some I32:=by kernel_rfl
@[simp] theorem si32:I32.size=1:=by kernel_rfl
@[simp] theorem by32:I32.bytes=24:=by kernel_rfl
@[simp] theorem ze32:I32.zero=[.snil]:=by kernel_rfl
@[simp] theorem za32:I32.zagg=false:=by kernel_rfl
@[simp] theorem de32:I32.desc=.slice 95:=by kernel_rfl
def I38:TI:=(ti Tryz.prog 38).getD ⟨.bool,0,0,[],false⟩
@[simp] theorem ti38:ti Tryz.prog 38=some I38:=by kernel_rfl
@[simp] theorem si38:I38.size=1:=by kernel_rfl
@[simp] theorem by38:I38.bytes=24:=by kernel_rfl
@[simp] theorem ze38:I38.zero=[.snil]:=by kernel_rfl
@[simp] theorem za38:I38.zagg=false:=by kernel_rfl
@[simp] theorem de38:I38.desc=.slice 73:=by kernel_rfl
def I40:TI:=(ti Tryz.prog 40).getD ⟨.bool,0,0,[],false⟩
@[simp] theorem ti40:ti Tryz.prog 40=some I40:=by kernel_rfl
@[simp] theorem si40:I40.size=1:=by kernel_rfl
@[simp] theorem by40:I40.bytes=24:=by kernel_rfl
@[simp] theorem ze40:I40.zero=[.snil]:=by kernel_rfl
@[simp] theorem za40:I40.zagg=false:=by kernel_rfl
@[simp] theorem de40:I40.desc=.slice 32:=by kernel_rfl
def I41:TI:=(ti Tryz.prog 41).getD ⟨.bool,0,0,[],false⟩
@[simp] theorem ti41:ti Tryz.prog 41=some I41:=by kernel_rfl
@[simp] theorem si41:I41.size=1:=by kernel_rfl
@[simp] theorem by41:I41.bytes=24:=by kernel_rfl
@[simp] theorem ze41:I41.zero=[.snil]:=by kernel_rfl
@[simp] theorem za41:I41.zagg=false:=by kernel_rfl
@[simp] theorem de41:I41.desc=.slice 9:=by kernel_rfl
def I58:TI:=(ti Tryz.prog 58).getD ⟨.bool,0,0,[],false⟩
@[simp] theorem ti58:ti Tryz.prog 58=some I58:=by kernel_rfl
@[simp] theorem si58:I58.size=1:=by kernel_rfl
@[simp] theorem by58:I58.bytes=24:=by kernel_rfl
@[simp] theorem ze58:I58.zero=[.snil]:=by kernel_rfl
@[simp] theorem za58:I58.zagg=false:=by kernel_rfl
@[simp] theorem de58:I58.desc=.slice 62:=by kernel_rfl
def I60:TI:=(ti Tryz.prog 60).getD ⟨.bool,0,0,[],false⟩
@[simp] theorem ti60:ti Tryz.prog 60=some I60:=by kernel_rfl
@[simp] theorem si60:I60.size=1:=by kernel_rfl
@[simp] theorem by60:I60.bytes=24:=by kernel_rfl
@[simp] theorem ze60:I60.zero=[.snil]:=by kernel_rfl
@[simp] theorem za60:I60.zagg=false:=by kernel_rfl
@[simp] theorem de60:I60.desc=.slice 137:=by kernel_rfl
def I62:TI:=(ti Tryz.prog 62).getD ⟨.bool,0,0,[],false⟩
@[simp] theorem ti62:ti Tryz.prog 62=some I62:=by kernel_rfl
@[simp] theorem si62:I62.size=11:=by kernel_rfl
@[simp] theorem by62:I62.bytes=152:=by kernel_rfl
@[simp] theorem ze62:I62.zero=[.int .i64 0,.int .i64 0,.str [],.int .i64 0,.snil,.snil,.int .i64 0,.str [],.int .i64 0,.int .i64 0,.snil]:=by kernel_rfl
@[simp] theorem za62:I62.zagg=true:=by kernel_rfl
@[simp] theorem ag62:zbo I62.desc=true:=by kernel_rfl
@[simp] theorem st62:zat I62.desc=true:=by kernel_rfl
@[simp] theorem fk62:zaO Tryz.prog (fieldsOf I62.desc)=true:=by kernel_rfl
def F62x0:Field:=(zi I62 0).getD default
@[simp] theorem zLS:zi I62 0=some F62x0:=by kernel_rfl
@[simp] theorem zLh:F62x0.type=3:=by kernel_rfl
@[simp] theorem zL4:F62x0.offset=0:=by kernel_rfl
def F62x1:Field:=(zi I62 1).getD default
@[simp] theorem zLR:zi I62 1=some F62x1:=by kernel_rfl
@[simp] theorem zLg:F62x1.type=3:=by kernel_rfl
@[simp] theorem zL3:F62x1.offset=1:=by kernel_rfl
def F62x2:Field:=(zi I62 2).getD default
@[simp] theorem zLQ:zi I62 2=some F62x2:=by kernel_rfl
@[simp] theorem zLf:F62x2.type=9:=by kernel_rfl
@[simp] theorem zL2:F62x2.offset=2:=by kernel_rfl
def F62x3:Field:=(zi I62 3).getD default
@[simp] theorem zLP:zi I62 3=some F62x3:=by kernel_rfl
@[simp] theorem zLe:F62x3.type=3:=by kernel_rfl
@[simp] theorem zL1:F62x3.offset=3:=by kernel_rfl
def F62x4:Field:=(zi I62 4).getD default
@[simp] theorem zLO:zi I62 4=some F62x4:=by kernel_rfl
@[simp] theorem zLd:F62x4.type=58:=by kernel_rfl
@[simp] theorem zL0:F62x4.offset=4:=by kernel_rfl
def F62x5:Field:=(zi I62 5).getD default
@[simp] theorem zLN:zi I62 5=some F62x5:=by kernel_rfl
@[simp] theorem zLc:F62x5.type=60:=by kernel_rfl
@[simp] theorem zLz:F62x5.offset=5:=by kernel_rfl
def F62x6:Field:=(zi I62 6).getD default
@[simp] theorem zLM:zi I62 6=some F62x6:=by kernel_rfl
@[simp] theorem zLb:F62x6.type=30:=by kernel_rfl
@[simp] theorem zLy:F62x6.offset=6:=by kernel_rfl
def I71:TI:=(ti Tryz.prog 71).getD ⟨.bool,0,0,[],false⟩
@[simp] theorem ti71:ti Tryz.prog 71=some I71:=by kernel_rfl
@[simp] theorem si71:I71.size=6:=by kernel_rfl
@[simp] theorem by71:I71.bytes=72:=by kernel_rfl
@[simp] theorem ze71:I71.zero=[.int .i64 0,.int .i64 0,.str [],.int .i64 0,.int .i64 0,.snil]:=by kernel_rfl
@[simp] theorem za71:I71.zagg=true:=by kernel_rfl
@[simp] theorem ag71:zbo I71.desc=true:=by kernel_rfl
@[simp] theorem st71:zat I71.desc=true:=by kernel_rfl
@[simp] theorem fk71:zaO Tryz.prog (fieldsOf I71.desc)=true:=by kernel_rfl
def F71x0:Field:=(zi I71 0).getD default
@[simp] theorem zLL:zi I71 0=some F71x0:=by kernel_rfl
@[simp] theorem zLa:F71x0.type=3:=by kernel_rfl
@[simp] theorem zLx:F71x0.offset=0:=by kernel_rfl
def F71x1:Field:=(zi I71 1).getD default
@[simp] theorem zLK:zi I71 1=some F71x1:=by kernel_rfl
@[simp] theorem zKZ:F71x1.type=30:=by kernel_rfl
@[simp] theorem zLw:F71x1.offset=1:=by kernel_rfl
def I73:TI:=(ti Tryz.prog 73).getD ⟨.bool,0,0,[],false⟩
@[simp] theorem ti73:ti Tryz.prog 73=some I73:=by kernel_rfl
@[simp] theorem si73:I73.size=7:=by kernel_rfl
@[simp] theorem by73:I73.bytes=88:=by kernel_rfl
@[simp] theorem ze73:I73.zero=[.str [],.int .i64 0,.int .i64 0,.str [],.int .i64 0,.int .i64 0,.snil]:=by kernel_rfl
@[simp] theorem za73:I73.zagg=true:=by kernel_rfl
@[simp] theorem ag73:zbo I73.desc=true:=by kernel_rfl
@[simp] theorem st73:zat I73.desc=true:=by kernel_rfl
@[simp] theorem fk73:zaO Tryz.prog (fieldsOf I73.desc)=true:=by kernel_rfl
def F73x0:Field:=(zi I73 0).getD default
@[simp] theorem zLJ:zi I73 0=some F73x0:=by kernel_rfl
@[simp] theorem zKY:F73x0.type=9:=by kernel_rfl
@[simp] theorem zLv:F73x0.offset=0:=by kernel_rfl
def F73x1:Field:=(zi I73 1).getD default
@[simp] theorem zLI:zi I73 1=some F73x1:=by kernel_rfl
@[simp] theorem zKX:F73x1.type=71:=by kernel_rfl
@[simp] theorem zLu:F73x1.offset=1:=by kernel_rfl
def I78:TI:=(ti Tryz.prog 78).getD ⟨.bool,0,0,[],false⟩
@[simp] theorem ti78:ti Tryz.prog 78=some I78:=by kernel_rfl
@[simp] theorem si78:I78.size=1:=by kernel_rfl
@[simp] theorem by78:I78.bytes=8:=by kernel_rfl
@[simp] theorem ze78:I78.zero=[.int .i64 0]:=by kernel_rfl
@[simp] theorem za78:I78.zagg=false:=by kernel_rfl
@[simp] theorem de78:I78.desc=.int .i64:=by kernel_rfl
def I80:TI:=(ti Tryz.prog 80).getD ⟨.bool,0,0,[],false⟩
@[simp] theorem ti80:ti Tryz.prog 80=some I80:=by kernel_rfl
@[simp] theorem si80:I80.size=1:=by kernel_rfl
@[simp] theorem by80:I80.bytes=24:=by kernel_rfl
@[simp] theorem ze80:I80.zero=[.snil]:=by kernel_rfl
@[simp] theorem za80:I80.zagg=false:=by kernel_rfl
@[simp] theorem de80:I80.desc=.slice 101:=by kernel_rfl
def I93:TI:=(ti Tryz.prog 93).getD ⟨.bool,0,0,[],false⟩
@[simp] theorem ti93:ti Tryz.prog 93=some I93:=by kernel_rfl
@[simp] theorem si93:I93.size=1:=by kernel_rfl
@[simp] theorem by93:I93.bytes=24:=by kernel_rfl
@[simp] theorem ze93:I93.zero=[.snil]:=by kernel_rfl
@[simp] theorem za93:I93.zagg=false:=by kernel_rfl
@[simp] theorem de93:I93.desc=.slice 116:=by kernel_rfl
def I95:TI:=(ti Tryz.prog 95).getD ⟨.bool,0,0,[],false⟩
@[simp] theorem ti95:ti Tryz.prog 95=some I95:=by kernel_rfl
@[simp] theorem si95:I95.size=4:=by kernel_rfl
@[simp] theorem by95:I95.bytes=72:=by kernel_rfl
@[simp] theorem ze95:I95.zero=[.int .i64 0,.str [],.snil,.snil]:=by kernel_rfl
@[simp] theorem za95:I95.zagg=true:=by kernel_rfl
@[simp] theorem ag95:zbo I95.desc=true:=by kernel_rfl
@[simp] theorem st95:zat I95.desc=true:=by kernel_rfl
@[simp] theorem fk95:zaO Tryz.prog (fieldsOf I95.desc)=true:=by kernel_rfl
def F95x0:Field:=(zi I95 0).getD default
@[simp] theorem zLH:zi I95 0=some F95x0:=by kernel_rfl
@[simp] theorem zKW:F95x0.type=3:=by kernel_rfl
@[simp] theorem zLt:F95x0.offset=0:=by kernel_rfl
def F95x1:Field:=(zi I95 1).getD default
@[simp] theorem zLG:zi I95 1=some F95x1:=by kernel_rfl
@[simp] theorem zKV:F95x1.type=9:=by kernel_rfl
@[simp] theorem zLs:F95x1.offset=1:=by kernel_rfl
def F95x2:Field:=(zi I95 2).getD default
@[simp] theorem zLF:zi I95 2=some F95x2:=by kernel_rfl
@[simp] theorem zKU:F95x2.type=41:=by kernel_rfl
@[simp] theorem zLr:F95x2.offset=2:=by kernel_rfl
def F95x3:Field:=(zi I95 3).getD default
@[simp] theorem zLE:zi I95 3=some F95x3:=by kernel_rfl
@[simp] theorem zKT:F95x3.type=93:=by kernel_rfl
@[simp] theorem zLq:F95x3.offset=3:=by kernel_rfl
def I98:TI:=(ti Tryz.prog 98).getD ⟨.bool,0,0,[],false⟩
@[simp] theorem ti98:ti Tryz.prog 98=some I98:=by kernel_rfl
@[simp] theorem si98:I98.size=1:=by kernel_rfl
@[simp] theorem by98:I98.bytes=8:=by kernel_rfl
@[simp] theorem ze98:I98.zero=[.int .u64 0]:=by kernel_rfl
@[simp] theorem za98:I98.zagg=false:=by kernel_rfl
@[simp] theorem de98:I98.desc=.int .u64:=by kernel_rfl
def I101:TI:=(ti Tryz.prog 101).getD ⟨.bool,0,0,[],false⟩
@[simp] theorem zNP:ti Tryz.prog 101=some I101:=by kernel_rfl
@[simp] theorem zNZ:I101.size=6:=by kernel_rfl
@[simp] theorem zO3:I101.bytes=72:=by kernel_rfl
@[simp] theorem zNA:I101.zero=[.int .i64 0,.int .i64 0,.str [],.int .i64 0,.int .i64 0,.snil]:=by kernel_rfl
@[simp] theorem zND:I101.zagg=true:=by kernel_rfl
@[simp] theorem zO8:zbo I101.desc=true:=by kernel_rfl
@[simp] theorem zNW:zat I101.desc=true:=by kernel_rfl
@[simp] theorem zOw:zaO Tryz.prog (fieldsOf I101.desc)=true:=by kernel_rfl
def F101x0:Field:=(zi I101 0).getD default
@[simp] theorem zJd:zi I101 0=some F101x0:=by kernel_rfl
@[simp] theorem zIJ:F101x0.type=3:=by kernel_rfl
@[simp] theorem zIT:F101x0.offset=0:=by kernel_rfl
def F101x1:Field:=(zi I101 1).getD default
@[simp] theorem zJc:zi I101 1=some F101x1:=by kernel_rfl
@[simp] theorem zII:F101x1.type=30:=by kernel_rfl
@[simp] theorem zIS:F101x1.offset=1:=by kernel_rfl
def I116:TI:=(ti Tryz.prog 116).getD ⟨.bool,0,0,[],false⟩
@[simp] theorem zNO:ti Tryz.prog 116=some I116:=by kernel_rfl
@[simp] theorem zNY:I116.size=3:=by kernel_rfl
@[simp] theorem zO2:I116.bytes=48:=by kernel_rfl
@[simp] theorem zN9:I116.zero=[.int .i64 0,.str [],.snil]:=by kernel_rfl
@[simp] theorem zNC:I116.zagg=true:=by kernel_rfl
@[simp] theorem zO7:zbo I116.desc=true:=by kernel_rfl
@[simp] theorem zNV:zat I116.desc=true:=by kernel_rfl
@[simp] theorem zOv:zaO Tryz.prog (fieldsOf I116.desc)=true:=by kernel_rfl
def F116x0:Field:=(zi I116 0).getD default
@[simp] theorem zJb:zi I116 0=some F116x0:=by kernel_rfl
@[simp] theorem zIH:F116x0.type=3:=by kernel_rfl
@[simp] theorem zIR:F116x0.offset=0:=by kernel_rfl
def F116x1:Field:=(zi I116 1).getD default
@[simp] theorem zJa:zi I116 1=some F116x1:=by kernel_rfl
@[simp] theorem zIG:F116x1.type=9:=by kernel_rfl
@[simp] theorem zIQ:F116x1.offset=1:=by kernel_rfl
def F116x2:Field:=(zi I116 2).getD default
@[simp] theorem zIZ:zi I116 2=some F116x2:=by kernel_rfl
@[simp] theorem zIF:F116x2.type=28:=by kernel_rfl
@[simp] theorem zIP:F116x2.offset=2:=by kernel_rfl
def I137:TI:=(ti Tryz.prog 137).getD ⟨.bool,0,0,[],false⟩
@[simp] theorem zNN:ti Tryz.prog 137=some I137:=by kernel_rfl
@[simp] theorem zNX:I137.size=14:=by kernel_rfl
@[simp] theorem zO1:I137.bytes=200:=by kernel_rfl
@[simp] theorem zN8:I137.zero=[.int .i64 0,.str [],.snil,.int .i64 0,.int .i64 0,.str [],.int .i64 0,.snil,.snil,.int .i64 0,.str [],.int .i64 0,.int .i64 0,.snil]:=by kernel_rfl
@[simp] theorem zNB:I137.zagg=true:=by kernel_rfl
@[simp] theorem zO6:zbo I137.desc=true:=by kernel_rfl
@[simp] theorem zNU:zat I137.desc=true:=by kernel_rfl
@[simp] theorem zOu:zaO Tryz.prog (fieldsOf I137.desc)=true:=by kernel_rfl
def F137x0:Field:=(zi I137 0).getD default
@[simp] theorem zIY:zi I137 0=some F137x0:=by kernel_rfl
@[simp] theorem zIE:F137x0.type=3:=by kernel_rfl
@[simp] theorem zIO:F137x0.offset=0:=by kernel_rfl
def F137x1:Field:=(zi I137 1).getD default
@[simp] theorem zIX:zi I137 1=some F137x1:=by kernel_rfl
@[simp] theorem zID:F137x1.type=9:=by kernel_rfl
@[simp] theorem zIN:F137x1.offset=1:=by kernel_rfl
def F137x2:Field:=(zi I137 2).getD default
@[simp] theorem zIW:zi I137 2=some F137x2:=by kernel_rfl
@[simp] theorem zIC:F137x2.type=41:=by kernel_rfl
@[simp] theorem zIM:F137x2.offset=2:=by kernel_rfl
def F137x3:Field:=(zi I137 3).getD default
@[simp] theorem zIV:zi I137 3=some F137x3:=by kernel_rfl
@[simp] theorem zIB:F137x3.type=62:=by kernel_rfl
@[simp] theorem zIL:F137x3.offset=3:=by kernel_rfl
end Go.Proofs.YtpcmebclpindjaaGreat
