import Derived.Test.YtpcmebclpindjaaGreatJH
import Derived.Test.YtpcmebclpindjaaGreatRows
set_option linter.all false
noncomputable section
namespace Go.Proofs.YtpcmebclpindjaaGreat
open Go.J
def I3:TI:=(ti Tryz.prog 3).getD ⟨.bool,0,0,[],false⟩
@[simp] theorem ti3:ti Tryz.prog 3=some I3:=by kernel_rfl
@[simp] theorem si3:I3.size=1:=by kernel_rfl
@[simp] theorem by3:I3.bytes=8:=by kernel_rfl
@[simp] theorem ze3:I3.zero=[.int .i64 0]:=by kernel_rfl
@[simp] theorem za3:I3.zagg=false:=by kernel_rfl
@[simp] theorem de3:I3.desc=.int .i64:=by kernel_rfl
def I9:TI:=(ti Tryz.prog 9).getD ⟨.bool,0,0,[],false⟩
@[simp] theorem ti9:ti Tryz.prog 9=some I9:=by kernel_rfl
@[simp] theorem si9:I9.size=1:=by kernel_rfl
@[simp] theorem by9:I9.bytes=16:=by kernel_rfl
@[simp] theorem ze9:I9.zero=[.str []]:=by kernel_rfl
@[simp] theorem za9:I9.zagg=false:=by kernel_rfl
@[simp] theorem de9:I9.desc=.string:=by kernel_rfl
def I22:TI:=(ti Tryz.prog 22).getD ⟨.bool,0,0,[],false⟩
@[simp] theorem ti22:ti Tryz.prog 22=some I22:=by kernel_rfl
@[simp] theorem si22:I22.size=1:=by kernel_rfl
@[simp] theorem by22:I22.bytes=24:=by kernel_rfl
@[simp] theorem ze22:I22.zero=[.snil]:=by kernel_rfl
@[simp] theorem za22:I22.zagg=false:=by kernel_rfl
@[simp] theorem de22:I22.desc=.slice 3:=by kernel_rfl
def I27:TI:=(ti Tryz.prog 27).getD ⟨.bool,0,0,[],false⟩
@[simp] theorem ti27:ti Tryz.prog 27=some I27:=by kernel_rfl
@[simp] theorem si27:I27.size=2:=by kernel_rfl
@[simp] theorem by27:I27.bytes=32:=by kernel_rfl
@[simp] theorem ze27:I27.zero=[.snil,.int .i64 0]:=by kernel_rfl
@[simp] theorem za27:I27.zagg=true:=by kernel_rfl
@[simp] theorem ag27:zbj I27.desc=true:=by kernel_rfl
@[simp] theorem st27:zaw I27.desc=true:=by kernel_rfl
@[simp] theorem fk27:zaU Tryz.prog (fieldsOf I27.desc)=true:=by kernel_rfl
def F27x0:Field:=(zu I27 0).getD default
@[simp] theorem zCf:zu I27 0=some F27x0:=by kernel_rfl
@[simp] theorem zB8:F27x0.type=22:=by kernel_rfl
@[simp] theorem zBO:F27x0.offset=0:=by kernel_rfl
def F27x1:Field:=(zu I27 1).getD default
@[simp] theorem zCe:zu I27 1=some F27x1:=by kernel_rfl
@[simp] theorem zB7:F27x1.type=3:=by kernel_rfl
@[simp] theorem zBN:F27x1.offset=1:=by kernel_rfl
def I28:TI:=(ti Tryz.prog 28).getD ⟨.bool,0,0,[],false⟩
@[simp] theorem ti28:ti Tryz.prog 28=some I28:=by kernel_rfl
@[simp] theorem si28:I28.size=1:=by kernel_rfl
@[simp] theorem by28:I28.bytes=24:=by kernel_rfl
@[simp] theorem ze28:I28.zero=[.snil]:=by kernel_rfl
@[simp] theorem za28:I28.zagg=false:=by kernel_rfl
@[simp] theorem de28:I28.desc=.slice 30:=by kernel_rfl
def I30:TI:=(ti Tryz.prog 30).getD ⟨.bool,0,0,[],false⟩
@[simp] theorem ti30:ti Tryz.prog 30=some I30:=by kernel_rfl
@[simp] theorem si30:I30.size=5:=by kernel_rfl
@[simp] theorem by30:I30.bytes=64:=by kernel_rfl
@[simp] theorem ze30:I30.zero=[.int .i64 0,.str [],.int .i64 0,.int .i64 0,.snil]:=by kernel_rfl
@[simp] theorem za30:I30.zagg=true:=by kernel_rfl
@[simp] theorem ag30:zbj I30.desc=true:=by kernel_rfl
@[simp] theorem st30:zaw I30.desc=true:=by kernel_rfl
@[simp] theorem fk30:zaU Tryz.prog (fieldsOf I30.desc)=true:=by kernel_rfl
def F30x0:Field:=(zu I30 0).getD default
@[simp] theorem zCd:zu I30 0=some F30x0:=by kernel_rfl
@[simp] theorem zB6:F30x0.type=3:=by kernel_rfl
@[simp] theorem zBM:F30x0.offset=0:=by kernel_rfl
def F30x1:Field:=(zu I30 1).getD default
@[simp] theorem zCc:zu I30 1=some F30x1:=by kernel_rfl
@[simp] theorem zB5:F30x1.type=9:=by kernel_rfl
@[simp] theorem zBL:F30x1.offset=1:=by kernel_rfl
def F30x2:Field:=(zu I30 2).getD default
@[simp] theorem zCb:zu I30 2=some F30x2:=by kernel_rfl
@[simp] theorem zB4:F30x2.type=3:=by kernel_rfl
@[simp] theorem zBK:F30x2.offset=2:=by kernel_rfl
def F30x3:Field:=(zu I30 3).getD default
@[simp] theorem zCa:zu I30 3=some F30x3:=by kernel_rfl
@[simp] theorem zB3:F30x3.type=3:=by kernel_rfl
@[simp] theorem zBJ:F30x3.offset=3:=by kernel_rfl
def F30x4:Field:=(zu I30 4).getD default
@[simp] theorem zBZ:zu I30 4=some F30x4:=by kernel_rfl
@[simp] theorem zB2:F30x4.type=28:=by kernel_rfl
@[simp] theorem zBI:F30x4.offset=4:=by kernel_rfl
def I32:TI:=(ti Tryz.prog 32).getD ⟨.bool,0,0,[],false⟩
@[simp] theorem ti32:ti Tryz.prog 32=some I32:=by kernel_rfl
@[simp] theorem si32:I32.size=1:=by kernel_rfl
@[simp] theorem by32:I32.bytes=24:=by kernel_rfl
@[simp] theorem ze32:I32.zero=[.snil]:=by kernel_rfl
@[simp] theorem za32:I32.zagg=false:=by kernel_rfl
@[simp] theorem de32:I32.desc=.slice 95:=by kernel_rfl
def I38:TI:=(ti Tryz.prog 38).getD ⟨.bool,0,0,[],false⟩
@[simp] theorem ti38:ti Tryz.prog 38=some I38:=by kernel_rfl
@[simp] theorem si38:I38.size=1:=by kernel_rfl
@[simp] theorem by38:I38.bytes=24:=by kernel_rfl
@[simp] theorem ze38:I38.zero=[.snil]:=by kernel_rfl
@[simp] theorem za38:I38.zagg=false:=by kernel_rfl
@[simp] theorem de38:I38.desc=.slice 73:=by kernel_rfl
def I40:TI:=(ti Tryz.prog 40).getD ⟨.bool,0,0,[],false⟩
@[simp] theorem ti40:ti Tryz.prog 40=some I40:=by kernel_rfl
@[simp] theorem si40:I40.size=1:=by kernel_rfl
@[simp] theorem by40:I40.bytes=24:=by kernel_rfl
@[simp] theorem ze40:I40.zero=[.snil]:=by kernel_rfl
@[simp] theorem za40:I40.zagg=false:=by kernel_rfl
@[simp] theorem de40:I40.desc=.slice 32:=by kernel_rfl
def I41:TI:=(ti Tryz.prog 41).getD ⟨.bool,0,0,[],false⟩
@[simp] theorem ti41:ti Tryz.prog 41=some I41:=by kernel_rfl
@[simp] theorem si41:I41.size=1:=by kernel_rfl
@[simp] theorem by41:I41.bytes=24:=by kernel_rfl
@[simp] theorem ze41:I41.zero=[.snil]:=by kernel_rfl
@[simp] theorem za41:I41.zagg=false:=by kernel_rfl
@[simp] theorem de41:I41.desc=.slice 9:=by kernel_rfl
def I71:TI:=(ti Tryz.prog 71).getD ⟨.bool,0,0,[],false⟩
@[simp] theorem ti71:ti Tryz.prog 71=some I71:=by kernel_rfl
@[simp] theorem si71:I71.size=6:=by kernel_rfl
@[simp] theorem by71:I71.bytes=72:=by kernel_rfl
@[simp] theorem ze71:I71.zero=[.int .i64 0,.int .i64 0,.str [],.int .i64 0,.int .i64 0,.snil]:=by kernel_rfl
@[simp] theorem za71:I71.zagg=true:=by kernel_rfl
@[simp] theorem ag71:zbj I71.desc=true:=by kernel_rfl
@[simp] theorem st71:zaw I71.desc=true:=by kernel_rfl
@[simp] theorem fk71:zaU Tryz.prog (fieldsOf I71.desc)=true:=by kernel_rfl
def F71x0:Field:=(zu I71 0).getD default
@[simp] theorem zBY:zu I71 0=some F71x0:=by kernel_rfl
@[simp] theorem zB1:F71x0.type=3:=by kernel_rfl
@[simp] theorem zBH:F71x0.offset=0:=by kernel_rfl
def F71x1:Field:=(zu I71 1).getD default
@[simp] theorem zBX:zu I71 1=some F71x1:=by kernel_rfl
@[simp] theorem zB0:F71x1.type=30:=by kernel_rfl
@[simp] theorem zBG:F71x1.offset=1:=by kernel_rfl
def I73:TI:=(ti Tryz.prog 73).getD ⟨.bool,0,0,[],false⟩
@[simp] theorem ti73:ti Tryz.prog 73=some I73:=by kernel_rfl
@[simp] theorem si73:I73.size=7:=by kernel_rfl
@[simp] theorem by73:I73.bytes=88:=by kernel_rfl
@[simp] theorem ze73:I73.zero=[.str [],.int .i64 0,.int .i64 0,.str [],.int .i64 0,.int .i64 0,.snil]:=by kernel_rfl
@[simp] theorem za73:I73.zagg=true:=by kernel_rfl
@[simp] theorem ag73:zbj I73.desc=true:=by kernel_rfl
@[simp] theorem st73:zaw I73.desc=true:=by kernel_rfl
@[simp] theorem fk73:zaU Tryz.prog (fieldsOf I73.desc)=true:=by kernel_rfl
def F73x0:Field:=(zu I73 0).getD default
@[simp] theorem zBW:zu I73 0=some F73x0:=by kernel_rfl
@[simp] theorem zBz:F73x0.type=9:=by kernel_rfl
@[simp] theorem zBF:F73x0.offset=0:=by kernel_rfl
def F73x1:Field:=(zu I73 1).getD default
@[simp] theorem zBV:zu I73 1=some F73x1:=by kernel_rfl
@[simp] theorem zBy:F73x1.type=71:=by kernel_rfl
@[simp] theorem zBE:F73x1.offset=1:=by kernel_rfl
def I80:TI:=(ti Tryz.prog 80).getD ⟨.bool,0,0,[],false⟩
@[simp] theorem ti80:ti Tryz.prog 80=some I80:=by kernel_rfl
@[simp] theorem si80:I80.size=1:=by kernel_rfl
@[simp] theorem by80:I80.bytes=24:=by kernel_rfl
@[simp] theorem ze80:I80.zero=[.snil]:=by kernel_rfl
@[simp] theorem za80:I80.zagg=false:=by kernel_rfl
@[simp] theorem de80:I80.desc=.slice 101:=by kernel_rfl
def I93:TI:=(ti Tryz.prog 93).getD ⟨.bool,0,0,[],false⟩
@[simp] theorem ti93:ti Tryz.prog 93=some I93:=by kernel_rfl
@[simp] theorem si93:I93.size=1:=by kernel_rfl
@[simp] theorem by93:I93.bytes=24:=by kernel_rfl
@[simp] theorem ze93:I93.zero=[.snil]:=by kernel_rfl
@[simp] theorem za93:I93.zagg=false:=by kernel_rfl
@[simp] theorem de93:I93.desc=.slice 116:=by kernel_rfl
def I95:TI:=(ti Tryz.prog 95).getD ⟨.bool,0,0,[],false⟩
@[simp] theorem ti95:ti Tryz.prog 95=some I95:=by kernel_rfl
@[simp] theorem si95:I95.size=4:=by kernel_rfl
@[simp] theorem by95:I95.bytes=72:=by kernel_rfl
@[simp] theorem ze95:I95.zero=[.int .i64 0,.str [],.snil,.snil]:=by kernel_rfl
@[simp] theorem za95:I95.zagg=true:=by kernel_rfl
@[simp] theorem ag95:zbj I95.desc=true:=by kernel_rfl
@[simp] theorem st95:zaw I95.desc=true:=by kernel_rfl
@[simp] theorem fk95:zaU Tryz.prog (fieldsOf I95.desc)=true:=by kernel_rfl
def F95x0:Field:=(zu I95 0).getD default
@[simp] theorem zBU:zu I95 0=some F95x0:=by kernel_rfl
@[simp] theorem zBx:F95x0.type=3:=by kernel_rfl
@[simp] theorem zBD:F95x0.offset=0:=by kernel_rfl
def F95x1:Field:=(zu I95 1).getD default
@[simp] theorem zBT:zu I95 1=some F95x1:=by kernel_rfl
@[simp] theorem zBw:F95x1.type=9:=by kernel_rfl
@[simp] theorem zBC:F95x1.offset=1:=by kernel_rfl
def F95x2:Field:=(zu I95 2).getD default
@[simp] theorem zBS:zu I95 2=some F95x2:=by kernel_rfl
@[simp] theorem zBv:F95x2.type=41:=by kernel_rfl
@[simp] theorem zBB:F95x2.offset=2:=by kernel_rfl
def F95x3:Field:=(zu I95 3).getD default
@[simp] theorem zBR:zu I95 3=some F95x3:=by kernel_rfl
@[simp] theorem zBu:F95x3.type=93:=by kernel_rfl
@[simp] theorem zBA:F95x3.offset=3:=by kernel_rfl
def I98:TI:=(ti Tryz.prog 98).getD ⟨.bool,0,0,[],false⟩
@[simp] theorem ti98:ti Tryz.prog 98=some I98:=by kernel_rfl
@[simp] theorem si98:I98.size=1:=by kernel_rfl
@[simp] theorem by98:I98.bytes=8:=by kernel_rfl
@[simp] theorem ze98:I98.zero=[.int .u64 0]:=by kernel_rfl
@[simp] theorem za98:I98.zagg=false:=by kernel_rfl
@[simp] theorem de98:I98.desc=.int .u64:=by kernel_rfl
def I101:TI:=(ti Tryz.prog 101).getD ⟨.bool,0,0,[],false⟩
@[simp] theorem zDB:ti Tryz.prog 101=some I101:=by kernel_rfl
@[simp] theorem zDJ:I101.size=6:=by kernel_rfl
@[simp] theorem zEj:I101.bytes=72:=by kernel_rfl
@[simp] theorem zDz:I101.zero=[.int .i64 0,.int .i64 0,.str [],.int .i64 0,.int .i64 0,.snil]:=by kernel_rfl
@[simp] theorem zD1:I101.zagg=true:=by kernel_rfl
@[simp] theorem zEn:zbj I101.desc=true:=by kernel_rfl
@[simp] theorem zDH:zaw I101.desc=true:=by kernel_rfl
@[simp] theorem zEe:zaU Tryz.prog (fieldsOf I101.desc)=true:=by kernel_rfl
def F101x0:Field:=(zu I101 0).getD default
@[simp] theorem z97:zu I101 0=some F101x0:=by kernel_rfl
@[simp] theorem z9t:F101x0.type=3:=by kernel_rfl
@[simp] theorem z9z:F101x0.offset=0:=by kernel_rfl
def F101x1:Field:=(zu I101 1).getD default
@[simp] theorem z96:zu I101 1=some F101x1:=by kernel_rfl
@[simp] theorem z9s:F101x1.type=30:=by kernel_rfl
@[simp] theorem z9y:F101x1.offset=1:=by kernel_rfl
def I116:TI:=(ti Tryz.prog 116).getD ⟨.bool,0,0,[],false⟩
@[simp] theorem zDA:ti Tryz.prog 116=some I116:=by kernel_rfl
@[simp] theorem zDI:I116.size=3:=by kernel_rfl
@[simp] theorem zEi:I116.bytes=48:=by kernel_rfl
@[simp] theorem zDy:I116.zero=[.int .i64 0,.str [],.snil]:=by kernel_rfl
@[simp] theorem zD0:I116.zagg=true:=by kernel_rfl
@[simp] theorem zEm:zbj I116.desc=true:=by kernel_rfl
@[simp] theorem zDG:zaw I116.desc=true:=by kernel_rfl
@[simp] theorem zEd:zaU Tryz.prog (fieldsOf I116.desc)=true:=by kernel_rfl
def F116x0:Field:=(zu I116 0).getD default
@[simp] theorem z95:zu I116 0=some F116x0:=by kernel_rfl
@[simp] theorem z9r:F116x0.type=3:=by kernel_rfl
@[simp] theorem z9x:F116x0.offset=0:=by kernel_rfl
def F116x1:Field:=(zu I116 1).getD default
@[simp] theorem z94:zu I116 1=some F116x1:=by kernel_rfl
@[simp] theorem z9q:F116x1.type=9:=by kernel_rfl
@[simp] theorem z9w:F116x1.offset=1:=by kernel_rfl
def F116x2:Field:=(zu I116 2).getD default
@[simp] theorem z92:zu I116 2=some F116x2:=by kernel_rfl
@[simp] theorem z9p:F116x2.type=28:=by kernel_rfl
@[simp] theorem z9v:F116x2.offset=2:=by kernel_rfl
end Go.Proofs.YtpcmebclpindjaaGreat
