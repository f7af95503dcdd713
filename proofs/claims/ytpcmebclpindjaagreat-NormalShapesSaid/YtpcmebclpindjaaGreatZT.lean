import Derived.Test.YtpcmebclpindjaaGreatJH
import Derived.Test.YtpcmebclpindjaaGreatRows
set_option linter.all false
noncomputable section
namespace Go.Proofs.YtpcmebclpindjaaGreat
open Go.J
def I3:TI:=(ti Tryz.prog 3).getD ⟨.bool,0,0,[],false⟩
@[simp] theorem ti3:ti Tryz.prog 3=some I3:=by kernel_rfl
@[simp] theorem si3:I3.size=1:=by kernel_rfl
@[simp] theorem by3:I3.bytes=8:=by kernel_rfl
@[simp] theorem ze3:I3.zero=[.int .i64 0]:=by kernel_rfl
@[simp] theorem za3:I3.zagg=false:=by kernel_rfl
@[simp] theorem de3:I3.desc=.int .i64:=by kernel_rfl
def I4:TI:=(ti Tryz.prog 4).getD ⟨.bool,0,0,[],false⟩
@[simp] theorem ti4:ti Tryz.prog 4=some I4:=by kernel_rfl
@[simp] theorem si4:I4.size=1:=by kernel_rfl
@[simp] theorem by4:I4.bytes=1:=by kernel_rfl
@[simp] theorem ze4:I4.zero=[.bool false]:=by kernel_rfl
@[simp] theorem za4:I4.zagg=false:=by kernel_rfl
@[simp] theorem de4:I4.desc=.bool:=by kernel_rfl
def I9:TI:=(ti Tryz.prog 9).getD ⟨.bool,0,0,[],false⟩
@[simp] theorem ti9:ti Tryz.prog 9=some I9:=by kernel_rfl
@[simp] theorem si9:I9.size=1:=by kernel_rfl
@[simp] theorem by9:I9.bytes=16:=by kernel_rfl
@[simp] theorem ze9:I9.zero=[.str []]:=by kernel_rfl
@[simp] theorem za9:I9.zagg=false:=by kernel_rfl
@[simp] theorem de9:I9.desc=.string:=by kernel_rfl
def I22:TI:=(ti Tryz.prog 22).getD ⟨.bool,0,0,[],false⟩
@[simp] theorem ti22:ti Tryz.prog 22=some I22:=by kernel_rfl
@[simp] theorem si22:I22.size=1:=by kernel_rfl
@[simp] theorem by22:I22.bytes=24:=by kernel_rfl
@[simp] theorem ze22:I22.zero=[.snil]:=by kernel_rfl
@[simp] theorem za22:I22.zagg=false:=by kernel_rfl
@[simp] theorem de22:I22.desc=.slice 3:=by kernel_rfl
def I27:TI:=(ti Tryz.prog 27).getD ⟨.bool,0,0,[],false⟩
@[simp] theorem ti27:ti Tryz.prog 27=some I27:=by kernel_rfl
@[simp] theorem si27:I27.size=2:=by kernel_rfl
@[simp] theorem by27:I27.bytes=32:=by kernel_rfl
@[simp] theorem ze27:I27.zero=[.snil,.int .i64 0]:=by kernel_rfl
@[simp] theorem za27:I27.zagg=true:=by kernel_rfl
@[simp] theorem ag27:zbf I27.desc=true:=by kernel_rfl
@[simp] theorem st27:zar I27.desc=true:=by kernel_rfl
@[simp] theorem fk27:zaO Tryz.prog (fieldsOf I27.desc)=true:=by kernel_rfl
def F27x0:Field:=(zh I27 0).getD default
@[simp] theorem zFR:zh I27 0=some F27x0:=by kernel_rfl
@[simp] theorem zFg:F27x0.type=22:=by kernel_rfl
@[simp] theorem zF3:F27x0.offset=0:=by kernel_rfl
def F27x1:Field:=(zh I27 1).getD default
@[simp] theorem zFQ:zh I27 1=some F27x1:=by kernel_rfl
@[simp] theorem zFf:F27x1.type=3:=by kernel_rfl
@[simp] theorem zF2:F27x1.offset=1:=by kernel_rfl
def I28:TI:=(ti Tryz.prog 28).getD ⟨.bool,0,0,[],false⟩
@[simp] theorem ti28:ti Tryz.prog 28=some I28:=by kernel_rfl
@[simp] theorem si28:I28.size=1:=by kernel_rfl
@[simp] theorem by28:I28.bytes=24:=by kernel_rfl
@[simp] theorem ze28:I28.zero=[.snil]:=by kernel_rfl
@[simp] theorem za28:I28.zagg=false:=by kernel_rfl
@[simp] theorem de28:I28.desc=.slice 30:=by kernel_rfl
def I30:TI:=(ti Tryz.prog 30).getD ⟨.bool,0,0,[],false⟩
@[simp] theorem ti30:ti Tryz.prog 30=some I30:=by kernel_rfl
@[simp] theorem si30:I30.size=5:=by kernel_rfl
@[simp] theorem by30:I30.bytes=64:=by kernel_rfl
@[simp] theorem ze30:I30.zero=[.int .i64 0,.str [],.int .i64 0,.int .i64 0,.snil]:=by kernel_rfl
@[simp] theorem za30:I30.zagg=true:=by kernel_rfl
@[simp] theorem ag30:zbf I30.desc=true:=by kernel_rfl
@[simp] theorem st30:zar I30.desc=true:=by kernel_rfl
@[simp] theorem fk30:zaO Tryz.prog (fieldsOf I30.desc)=true:=by kernel_rfl
def F30x0:Field:=(zh I30 0).getD default
@[simp] theorem zFP:zh I30 0=some F30x0:=by kernel_rfl
@[simp] theorem zFe:F30x0.type=3:=by kernel_rfl
@[simp] theorem zF1:F30x0.offset=0:=by kernel_rfl
def F30x1:Field:=(zh I30 1).getD default
@[simp] theorem zFO:zh I30 1=some F30x1:=by kernel_rfl
@[simp] theorem zFd:F30x1.type=9:=by kernel_rfl
@[simp] theorem zF0:F30x1.offset=1:=by kernel_rfl
def F30x2:Field:=(zh I30 2).getD default
@[simp] theorem zFN:zh I30 2=some F30x2:=by kernel_rfl
@[simp] theorem zFc:F30x2.type=3:=by kernel_rfl
@[simp] theorem zFz:F30x2.offset=2:=by kernel_rfl
def F30x3:Field:=(zh I30 3).getD default
@[simp] theorem zFM:zh I30 3=some F30x3:=by kernel_rfl
@[simp] theorem zFb:F30x3.type=3:=by kernel_rfl
@[simp] theorem zFy:F30x3.offset=3:=by kernel_rfl
def F30x4:Field:=(zh I30 4).getD default
@[simp] theorem zFL:zh I30 4=some F30x4:=by kernel_rfl
@[simp] theorem zFa:F30x4.type=28:=by kernel_rfl
@[simp] theorem zFx:F30x4.offset=4:=by kernel_rfl
def I32:TI:=(ti Tryz.prog 32).getD ⟨.bool,0,0,[],false⟩
@[simp] theorem ti32:ti Tryz.prog 32=some I32:=by kernel_rfl
@[simp] theorem si32:I32.size=1:=by kernel_rfl
@[simp] theorem by32:I32.bytes=24:=by kernel_rfl
@[simp] theorem ze32:I32.zero=[.snil]:=by kernel_rfl
@[simp] theorem za32:I32.zagg=false:=by kernel_rfl
@[simp] theorem de32:I32.desc=.slice 95:=by kernel_rfl
def I38:TI:=(ti Tryz.prog 38).getD ⟨.bool,0,0,[],false⟩
@[simp] theorem ti38:ti Tryz.prog 38=some I38:=by kernel_rfl
@[simp] theorem si38:I38.size=1:=by kernel_rfl
@[simp] theorem by38:I38.bytes=24:=by kernel_rfl
@[simp] theorem ze38:I38.zero=[.snil]:=by kernel_rfl
@[simp] theorem za38:I38.zagg=false:=by kernel_rfl
@[simp] theorem de38:I38.desc=.slice 73:=by kernel_rfl
def I40:TI:=(ti Tryz.prog 40).getD ⟨.bool,0,0,[],false⟩
@[simp] theorem ti40:ti Tryz.prog 40=some I40:=by kernel_rfl
@[simp] theorem si40:I40.size=1:=by kernel_rfl
@[simp] theorem by40:I40.bytes=24:=by kernel_rfl
@[simp] theorem ze40:I40.zero=[.snil]:=by kernel_rfl
@[simp] theorem za40:I40.zagg=false:=by kernel_rfl
@[simp] theorem de40:I40.desc=.slice 32:=by kernel_rfl
def I41:TI:=(ti Tryz.prog 41).getD ⟨.bool,0,0,[],false⟩
@[simp] theorem ti41:ti Tryz.prog 41=some I41:=by kernel_rfl
@[simp] theorem si41:I41.size=1:=by kernel_rfl
@[simp] theorem by41:I41.bytes=24:=by kernel_rfl
@[simp] theorem ze41:I41.zero=[.snil]:=by kernel_rfl
@[simp] theorem za41:I41.zagg=false:=by kernel_rfl
@[simp] theorem de41:I41.desc=.slice 9:=by kernel_rfl
def I58:TI:=(ti Tryz.prog 58).getD ⟨.bool,0,0,[],false⟩
@[simp] theorem ti58:ti Tryz.prog 58=some I58:=by kernel_rfl
@[simp] theorem si58:I58.size=1:=by kernel_rfl
@[simp] theorem by58:I58.bytes=24:=by kernel_rfl
@[simp] theorem ze58:I58.zero=[.snil]:=by kernel_rfl
@[simp] theorem za58:I58.zagg=false:=by kernel_rfl
@[simp] theorem de58:I58.desc=.slice 62:=by kernel_rfl
def I60:TI:=(ti Tryz.prog 60).getD ⟨.bool,0,0,[],false⟩
@[simp] theorem ti60:ti Tryz.prog 60=some I60:=by kernel_rfl
@[simp] theorem si60:I60.size=1:=by kernel_rfl
@[simp] theorem by60:I60.bytes=24:=by kernel_rfl
@[simp] theorem ze60:I60.zero=[.snil]:=by kernel_rfl
@[simp] theorem za60:I60.zagg=false:=by kernel_rfl
@[simp] theorem de60:I60.desc=.slice 137:=by kernel_rfl
def I62:TI:=(ti Tryz.prog 62).getD ⟨.bool,0,0,[],false⟩
@[simp] theorem ti62:ti Tryz.prog 62=some I62:=by kernel_rfl
@[simp] theorem si62:I62.size=11:=by kernel_rfl
@[simp] theorem by62:I62.bytes=152:=by kernel_rfl
@[simp] theorem ze62:I62.zero=[.int .i64 0,.int .i64 0,.str [],.int .i64 0,.snil,.snil,.int .i64 0,.str [],.int .i64 0,.int .i64 0,.snil]:=by kernel_rfl
@[simp] theorem za62:I62.zagg=true:=by kernel_rfl
@[simp] theorem ag62:zbf I62.desc=true:=by kernel_rfl
@[simp] theorem st62:zar I62.desc=true:=by kernel_rfl
@[simp] theorem fk62:zaO Tryz.prog (fieldsOf I62.desc)=true:=by kernel_rfl
def F62x0:Field:=(zh I62 0).getD default
@[simp] theorem zFK:zh I62 0=some F62x0:=by kernel_rfl
@[simp] theorem zEZ:F62x0.type=3:=by kernel_rfl
@[simp] theorem zFw:F62x0.offset=0:=by kernel_rfl
def F62x1:Field:=(zh I62 1).getD default
@[simp] theorem zFJ:zh I62 1=some F62x1:=by kernel_rfl
@[simp] theorem zEY:F62x1.type=3:=by kernel_rfl
@[simp] theorem zFv:F62x1.offset=1:=by kernel_rfl
def F62x2:Field:=(zh I62 2).getD default
@[simp] theorem zFI:zh I62 2=some F62x2:=by kernel_rfl
@[simp] theorem zEX:F62x2.type=9:=by kernel_rfl
@[simp] theorem zFu:F62x2.offset=2:=by kernel_rfl
def F62x3:Field:=(zh I62 3).getD default
@[simp] theorem zFH:zh I62 3=some F62x3:=by kernel_rfl
@[simp] theorem zEW:F62x3.type=3:=by kernel_rfl
@[simp] theorem zFt:F62x3.offset=3:=by kernel_rfl
def F62x4:Field:=(zh I62 4).getD default
@[simp] theorem zFG:zh I62 4=some F62x4:=by kernel_rfl
@[simp] theorem zEV:F62x4.type=58:=by kernel_rfl
@[simp] theorem zFs:F62x4.offset=4:=by kernel_rfl
def F62x5:Field:=(zh I62 5).getD default
@[simp] theorem zFF:zh I62 5=some F62x5:=by kernel_rfl
@[simp] theorem zEU:F62x5.type=60:=by kernel_rfl
@[simp] theorem zFr:F62x5.offset=5:=by kernel_rfl
def F62x6:Field:=(zh I62 6).getD default
@[simp] theorem zFE:zh I62 6=some F62x6:=by kernel_rfl
@[simp] theorem zET:F62x6.type=30:=by kernel_rfl
@[simp] theorem zFq:F62x6.offset=6:=by kernel_rfl
def I71:TI:=(ti Tryz.prog 71).getD ⟨.bool,0,0,[],false⟩
@[simp] theorem ti71:ti Tryz.prog 71=some I71:=by kernel_rfl
@[simp] theorem si71:I71.size=6:=by kernel_rfl
@[simp] theorem by71:I71.bytes=72:=by kernel_rfl
@[simp] theorem ze71:I71.zero=[.int .i64 0,.int .i64 0,.str [],.int .i64 0,.int .i64 0,.snil]:=by kernel_rfl
@[simp] theorem za71:I71.zagg=true:=by kernel_rfl
@[simp] theorem ag71:zbf I71.desc=true:=by kernel_rfl
@[simp] theorem st71:zar I71.desc=true:=by kernel_rfl
@[simp] theorem fk71:zaO Tryz.prog (fieldsOf I71.desc)=true:=by kernel_rfl
def F71x0:Field:=(zh I71 0).getD default
@[simp] theorem zFD:zh I71 0=some F71x0:=by kernel_rfl
@[simp] theorem zES:F71x0.type=3:=by kernel_rfl
@[simp] theorem zFp:F71x0.offset=0:=by kernel_rfl
def F71x1:Field:=(zh I71 1).getD default
@[simp] theorem zFC:zh I71 1=some F71x1:=by kernel_rfl
@[simp] theorem zER:F71x1.type=30:=by kernel_rfl
@[simp] theorem zFo:F71x1.offset=1:=by kernel_rfl
def I73:TI:=(ti Tryz.prog 73).getD ⟨.bool,0,0,[],false⟩
@[simp] theorem ti73:ti Tryz.prog 73=some I73:=by kernel_rfl
@[simp] theorem si73:I73.size=7:=by kernel_rfl
@[simp] theorem by73:I73.bytes=88:=by kernel_rfl
@[simp] theorem ze73:I73.zero=[.str [],.int .i64 0,.int .i64 0,.str [],.int .i64 0,.int .i64 0,.snil]:=by kernel_rfl
@[simp] theorem za73:I73.zagg=true:=by kernel_rfl
@[simp] theorem ag73:zbf I73.desc=true:=by kernel_rfl
@[simp] theorem st73:zar I73.desc=true:=by kernel_rfl
@[simp] theorem fk73:zaO Tryz.prog (fieldsOf I73.desc)=true:=by kernel_rfl
def F73x0:Field:=(zh I73 0).getD default
@[simp] theorem zFB:zh I73 0=some F73x0:=by kernel_rfl
@[simp] theorem zEQ:F73x0.type=9:=by kernel_rfl
@[simp] theorem zFn:F73x0.offset=0:=by kernel_rfl
def F73x1:Field:=(zh I73 1).getD default
@[simp] theorem zFA:zh I73 1=some F73x1:=by kernel_rfl
@[simp] theorem zEP:F73x1.type=71:=by kernel_rfl
@[simp] theorem zFm:F73x1.offset=1:=by kernel_rfl
def I80:TI:=(ti Tryz.prog 80).getD ⟨.bool,0,0,[],false⟩
@[simp] theorem ti80:ti Tryz.prog 80=some I80:=by kernel_rfl
@[simp] theorem si80:I80.size=1:=by kernel_rfl
@[simp] theorem by80:I80.bytes=24:=by kernel_rfl
@[simp] theorem ze80:I80.zero=[.snil]:=by kernel_rfl
@[simp] theorem za80:I80.zagg=false:=by kernel_rfl
@[simp] theorem de80:I80.desc=.slice 101:=by kernel_rfl
def I93:TI:=(ti Tryz.prog 93).getD ⟨.bool,0,0,[],false⟩
@[simp] theorem ti93:ti Tryz.prog 93=some I93:=by kernel_rfl
@[simp] theorem si93:I93.size=1:=by kernel_rfl
@[simp] theorem by93:I93.bytes=24:=by kernel_rfl
@[simp] theorem ze93:I93.zero=[.snil]:=by kernel_rfl
@[simp] theorem za93:I93.zagg=false:=by kernel_rfl
@[simp] theorem de93:I93.desc=.slice 116:=by kernel_rfl
def I95:TI:=(ti Tryz.prog 95).getD ⟨.bool,0,0,[],false⟩
@[simp] theorem ti95:ti Tryz.prog 95=some I95:=by kernel_rfl
@[simp] theorem si95:I95.size=4:=by kernel_rfl
@[simp] theorem by95:I95.bytes=72:=by kernel_rfl
@[simp] theorem ze95:I95.zero=[.int .i64 0,.str [],.snil,.snil]:=by kernel_rfl
@[simp] theorem za95:I95.zagg=true:=by kernel_rfl
@[simp] theorem ag95:zbf I95.desc=true:=by kernel_rfl
@[simp] theorem st95:zar I95.desc=true:=by kernel_rfl
@[simp] theorem fk95:zaO Tryz.prog (fieldsOf I95.desc)=true:=by kernel_rfl
def F95x0:Field:=(zh I95 0).getD default
@[simp] theorem zF9:zh I95 0=some F95x0:=by kernel_rfl
@[simp] theorem zEO:F95x0.type=3:=by kernel_rfl
@[simp] theorem zFl:F95x0.offset=0:=by kernel_rfl
def F95x1:Field:=(zh I95 1).getD default
@[simp] theorem zF8:zh I95 1=some F95x1:=by kernel_rfl
@[simp] theorem zEN:F95x1.type=9:=by kernel_rfl
@[simp] theorem zFk:F95x1.offset=1:=by kernel_rfl
def F95x2:Field:=(zh I95 2).getD default
@[simp] theorem zF7:zh I95 2=some F95x2:=by kernel_rfl
@[simp] theorem zEM:F95x2.type=41:=by kernel_rfl
@[simp] theorem zFj:F95x2.offset=2:=by kernel_rfl
def F95x3:Field:=(zh I95 3).getD default
@[simp] theorem zF6:zh I95 3=some F95x3:=by kernel_rfl
@[simp] theorem zEL:F95x3.type=93:=by kernel_rfl
@[simp] theorem zFi:F95x3.offset=3:=by kernel_rfl
def I98:TI:=(ti Tryz.prog 98).getD ⟨.bool,0,0,[],false⟩
@[simp] theorem ti98:ti Tryz.prog 98=some I98:=by kernel_rfl
@[simp] theorem si98:I98.size=1:=by kernel_rfl
@[simp] theorem by98:I98.bytes=8:=by kernel_rfl
@[simp] theorem ze98:I98.zero=[.int .u64 0]:=by kernel_rfl
@[simp] theorem za98:I98.zagg=false:=by kernel_rfl
@[simp] theorem de98:I98.desc=.int .u64:=by kernel_rfl
def I101:TI:=(ti Tryz.prog 101).getD ⟨.bool,0,0,[],false⟩
@[simp] theorem zHE:ti Tryz.prog 101=some I101:=by kernel_rfl
@[simp] theorem zHO:I101.size=6:=by kernel_rfl
@[simp] theorem zIr:I101.bytes=72:=by kernel_rfl
@[simp] theorem zHv:I101.zero=[.int .i64 0,.int .i64 0,.str [],.int .i64 0,.int .i64 0,.snil]:=by kernel_rfl
@[simp] theorem zHy:I101.zagg=true:=by kernel_rfl
@[simp] theorem zIw:zbf I101.desc=true:=by kernel_rfl
@[simp] theorem zHL:zar I101.desc=true:=by kernel_rfl
@[simp] theorem zIl:zaO Tryz.prog (fieldsOf I101.desc)=true:=by kernel_rfl
def F101x0:Field:=(zh I101 0).getD default
@[simp] theorem zCX:zh I101 0=some F101x0:=by kernel_rfl
@[simp] theorem zCD:F101x0.type=3:=by kernel_rfl
@[simp] theorem zCN:F101x0.offset=0:=by kernel_rfl
def F101x1:Field:=(zh I101 1).getD default
@[simp] theorem zCW:zh I101 1=some F101x1:=by kernel_rfl
@[simp] theorem zCC:F101x1.type=30:=by kernel_rfl
@[simp] theorem zCM:F101x1.offset=1:=by kernel_rfl
def I116:TI:=(ti Tryz.prog 116).getD ⟨.bool,0,0,[],false⟩
@[simp] theorem zHD:ti Tryz.prog 116=some I116:=by kernel_rfl
@[simp] theorem zHN:I116.size=3:=by kernel_rfl
@[simp] theorem zIq:I116.bytes=48:=by kernel_rfl
@[simp] theorem zHu:I116.zero=[.int .i64 0,.str [],.snil]:=by kernel_rfl
@[simp] theorem zHx:I116.zagg=true:=by kernel_rfl
@[simp] theorem zIv:zbf I116.desc=true:=by kernel_rfl
@[simp] theorem zHK:zar I116.desc=true:=by kernel_rfl
@[simp] theorem zIk:zaO Tryz.prog (fieldsOf I116.desc)=true:=by kernel_rfl
def F116x0:Field:=(zh I116 0).getD default
@[simp] theorem zCV:zh I116 0=some F116x0:=by kernel_rfl
@[simp] theorem zCB:F116x0.type=3:=by kernel_rfl
@[simp] theorem zCL:F116x0.offset=0:=by kernel_rfl
def F116x1:Field:=(zh I116 1).getD default
@[simp] theorem zCU:zh I116 1=some F116x1:=by kernel_rfl
@[simp] theorem zCA:F116x1.type=9:=by kernel_rfl
@[simp] theorem zCK:F116x1.offset=1:=by kernel_rfl
def F116x2:Field:=(zh I116 2).getD default
@[simp] theorem zCT:zh I116 2=some F116x2:=by kernel_rfl
@[simp] theorem zC9:F116x2.type=28:=by kernel_rfl
@[simp] theorem zCJ:F116x2.offset=2:=by kernel_rfl
def I137:TI:=(ti Tryz.prog 137).getD ⟨.bool,0,0,[],false⟩
@[simp] theorem zHC:ti Tryz.prog 137=some I137:=by kernel_rfl
@[simp] theorem zHM:I137.size=14:=by kernel_rfl
@[simp] theorem zIp:I137.bytes=200:=by kernel_rfl
@[simp] theorem zHt:I137.zero=[.int .i64 0,.str [],.snil,.int .i64 0,.int .i64 0,.str [],.int .i64 0,.snil,.snil,.int .i64 0,.str [],.int .i64 0,.int .i64 0,.snil]:=by kernel_rfl
@[simp] theorem zHw:I137.zagg=true:=by kernel_rfl
@[simp] theorem zIu:zbf I137.desc=true:=by kernel_rfl
@[simp] theorem zHJ:zar I137.desc=true:=by kernel_rfl
@[simp] theorem zIj:zaO Tryz.prog (fieldsOf I137.desc)=true:=by kernel_rfl
def F137x0:Field:=(zh I137 0).getD default
@[simp] theorem zCS:zh I137 0=some F137x0:=by kernel_rfl
@[simp] theorem zC8:F137x0.type=3:=by kernel_rfl
@[simp] theorem zCI:F137x0.offset=0:=by kernel_rfl
def F137x1:Field:=(zh I137 1).getD default
@[simp] theorem zCR:zh I137 1=some F137x1:=by kernel_rfl
@[simp] theorem zC7:F137x1.type=9:=by kernel_rfl
@[simp] theorem zCH:F137x1.offset=1:=by kernel_rfl
def F137x2:Field:=(zh I137 2).getD default
@[simp] theorem zCQ:zh I137 2=some F137x2:=by kernel_rfl
@[simp] theorem zC6:F137x2.type=41:=by kernel_rfl
@[simp] theorem zCG:F137x2.offset=2:=by kernel_rfl
def F137x3:Field:=(zh I137 3).getD default
@[simp] theorem zCP:zh I137 3=some F137x3:=by kernel_rfl
@[simp] theorem zC5:F137x3.type=62:=by kernel_rfl
@[simp] theorem zCF:F137x3.offset=3:=by kernel_rfl
end Go.Proofs.YtpcmebclpindjaaGreat
