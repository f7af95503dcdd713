import Derived.Test.YthfcfmkdeheicaaJH
import Derived.Test.YthfcfmkdeheicaaRows
set_option linter.all false
noncomputable section
namespace Go.Proofs.Ythfcfmkdeheicaa
open Go.J
def I3:TI:=(ti Try.prog 3).getD ⟨.bool,0,0,[],false⟩
@[simp] theorem ti3:ti Try.prog 3=some I3:=by kernel_rfl
@[simp] theorem si3:I3.size=1:=by kernel_rfl
@[simp] theorem by3:I3.bytes=8:=by kernel_rfl
@[simp] theorem ze3:I3.zero=[.int .i64 0]:=by kernel_rfl
@[simp] theorem za3:I3.zagg=false:=by kernel_rfl
@[simp] theorem de3:I3.desc=.int .i64:=by kernel_rfl
def I4:TI:=(ti Try.prog 4).getD ⟨.bool,0,0,[],false⟩
@[simp] theorem ti4:ti Try.prog 4=some I4:=by kernel_rfl
@[simp] theorem si4:I4.size=1:=by kernel_rfl
@[simp] theorem by4:I4.bytes=1:=by kernel_rfl
@[simp] theorem ze4:I4.zero=[.bool false]:=by kernel_rfl
@[simp] theorem za4:I4.zagg=false:=by kernel_rfl
@[simp] theorem de4:I4.desc=.bool:=by kernel_rfl
def I5:TI:=(ti Try.prog 5).getD ⟨.bool,0,0,[],false⟩
@[simp] theorem ti5:ti Try.prog 5=some I5:=by kernel_rfl
@[simp] theorem si5:I5.size=1:=by kernel_rfl
@[simp] theorem by5:I5.bytes=1:=by kernel_rfl
@[simp] theorem ze5:I5.zero=[.int .u8 0]:=by kernel_rfl
@[simp] theorem za5:I5.zagg=false:=by kernel_rfl
@[simp] theorem de5:I5.desc=.int .u8:=by kernel_rfl
def I9:TI:=(ti Try.prog 9).getD ⟨.bool,0,0,[],false⟩
@[simp] theorem ti9:ti Try.prog 9=some I9:=by kernel_rfl
@[simp] theorem si9:I9.size=1:=by kernel_rfl
@[simp] theorem by9:I9.bytes=16:=by kernel_rfl
@[simp] theorem ze9:I9.zero=[.str []]:=by kernel_rfl
@[simp] theorem za9:I9.zagg=false:=by kernel_rfl
@[simp] theorem de9:I9.desc=.string:=by kernel_rfl
def I22:TI:=(ti Try.prog 22).getD ⟨.bool,0,0,[],false⟩
@[simp] theorem ti22:ti Try.prog 22=some I22:=by kernel_rfl
@[simp] theorem si22:I22.size=1:=by kernel_rfl
@[simp] theorem by22:I22.bytes=24:=by kernel_rfl
@[simp] theorem ze22:I22.zero=[.snil]:=by kernel_rfl
@[simp] theorem za22:I22.zagg=false:=by kernel_rfl
@[simp] theorem de22:I22.desc=.slice 3:=by kernel_rfl
def I23:TI:=(ti Try.prog 23).getD ⟨.bool,0,0,[],false⟩
@[simp] theorem ti23:ti Try.prog 23=some I23:=by kernel_rfl
@[simp] theorem si23:I23.size=1:=by kernel_rfl
@[simp] theorem by23:I23.bytes=24:=by kernel_rfl
@[simp] theorem ze23:I23.zero=[.snil]:=by kernel_rfl
@[simp] theorem za23:I23.zagg=false:=by kernel_rfl
@[simp] theorem de23:I23.desc=.slice 25:=by kernel_rfl
def I25:TI:=(ti Try.prog 25).getD ⟨.bool,0,0,[],false⟩
@[simp] theorem ti25:ti Try.prog 25=some I25:=by kernel_rfl
@[simp] theorem si25:I25.size=5:=by kernel_rfl
@[simp] theorem by25:I25.bytes=64:=by kernel_rfl
@[simp] theorem ze25:I25.zero=[.int .i64 0,.str [],.int .i64 0,.int .i64 0,.snil]:=by kernel_rfl
@[simp] theorem za25:I25.zagg=true:=by kernel_rfl
@[simp] theorem ag25:isAggD I25.desc=true:=by kernel_rfl
@[simp] theorem st25:isStructD I25.desc=true:=by kernel_rfl
@[simp] theorem fk25:fieldsOk Try.prog (fieldsOf I25.desc)=true:=by kernel_rfl
def F25x0:Field:=(fieldOf I25 0).getD default
@[simp] theorem fi25x0:fieldOf I25 0=some F25x0:=by kernel_rfl
@[simp] theorem ft25x0:F25x0.type=3:=by kernel_rfl
@[simp] theorem fo25x0:F25x0.offset=0:=by kernel_rfl
def F25x1:Field:=(fieldOf I25 1).getD default
@[simp] theorem fi25x1:fieldOf I25 1=some F25x1:=by kernel_rfl
@[simp] theorem ft25x1:F25x1.type=9:=by kernel_rfl
@[simp] theorem fo25x1:F25x1.offset=1:=by kernel_rfl
def F25x2:Field:=(fieldOf I25 2).getD default
@[simp] theorem fi25x2:fieldOf I25 2=some F25x2:=by kernel_rfl
@[simp] theorem ft25x2:F25x2.type=3:=by kernel_rfl
@[simp] theorem fo25x2:F25x2.offset=2:=by kernel_rfl
def F25x3:Field:=(fieldOf I25 3).getD default
@[simp] theorem fi25x3:fieldOf I25 3=some F25x3:=by kernel_rfl
@[simp] theorem ft25x3:F25x3.type=3:=by kernel_rfl
@[simp] theorem fo25x3:F25x3.offset=3:=by kernel_rfl
def F25x4:Field:=(fieldOf I25 4).getD default
@[simp] theorem fi25x4:fieldOf I25 4=some F25x4:=by kernel_rfl
@[simp] theorem ft25x4:F25x4.type=23:=by kernel_rfl
@[simp] theorem fo25x4:F25x4.offset=4:=by kernel_rfl
def I27:TI:=(ti Try.prog 27).getD ⟨.bool,0,0,[],false⟩
@[simp] theorem ti27:ti Try.prog 27=some I27:=by kernel_rfl
@[simp] theorem si27:I27.size=8:=by kernel_rfl
@[simp] theorem by27:I27.bytes=88:=by kernel_rfl
@[simp] theorem ze27:I27.zero=[.bool false,.int .i64 0,.str [],.int .i64 0,.int .i64 0,.snil,.int .i64 0,.bool false]:=by kernel_rfl
@[simp] theorem za27:I27.zagg=true:=by kernel_rfl
@[simp] theorem ag27:isAggD I27.desc=true:=by kernel_rfl
@[simp] theorem st27:isStructD I27.desc=true:=by kernel_rfl
@[simp] theorem fk27:fieldsOk Try.prog (fieldsOf I27.desc)=true:=by kernel_rfl
def F27x0:Field:=(fieldOf I27 0).getD default
@[simp] theorem fi27x0:fieldOf I27 0=some F27x0:=by kernel_rfl
@[simp] theorem ft27x0:F27x0.type=4:=by kernel_rfl
@[simp] theorem fo27x0:F27x0.offset=0:=by kernel_rfl
def F27x1:Field:=(fieldOf I27 1).getD default
@[simp] theorem fi27x1:fieldOf I27 1=some F27x1:=by kernel_rfl
@[simp] theorem ft27x1:F27x1.type=25:=by kernel_rfl
@[simp] theorem fo27x1:F27x1.offset=1:=by kernel_rfl
def F27x2:Field:=(fieldOf I27 2).getD default
@[simp] theorem fi27x2:fieldOf I27 2=some F27x2:=by kernel_rfl
@[simp] theorem ft27x2:F27x2.type=3:=by kernel_rfl
@[simp] theorem fo27x2:F27x2.offset=6:=by kernel_rfl
def F27x3:Field:=(fieldOf I27 3).getD default
@[simp] theorem fi27x3:fieldOf I27 3=some F27x3:=by kernel_rfl
@[simp] theorem ft27x3:F27x3.type=4:=by kernel_rfl
@[simp] theorem fo27x3:F27x3.offset=7:=by kernel_rfl
def I34:TI:=(ti Try.prog 34).getD ⟨.bool,0,0,[],false⟩
@[simp] theorem ti34:ti Try.prog 34=some I34:=by kernel_rfl
@[simp] theorem si34:I34.size=2:=by kernel_rfl
@[simp] theorem by34:I34.bytes=32:=by kernel_rfl
@[simp] theorem ze34:I34.zero=[.snil,.int .i64 0]:=by kernel_rfl
@[simp] theorem za34:I34.zagg=true:=by kernel_rfl
@[simp] theorem ag34:isAggD I34.desc=true:=by kernel_rfl
@[simp] theorem st34:isStructD I34.desc=true:=by kernel_rfl
@[simp] theorem fk34:fieldsOk Try.prog (fieldsOf I34.desc)=true:=by kernel_rfl
def F34x0:Field:=(fieldOf I34 0).getD default
@[simp] theorem fi34x0:fieldOf I34 0=some F34x0:=by kernel_rfl
@[simp] theorem ft34x0:F34x0.type=22:=by kernel_rfl
@[simp] theorem fo34x0:F34x0.offset=0:=by kernel_rfl
def F34x1:Field:=(fieldOf I34 1).getD default
@[simp] theorem fi34x1:fieldOf I34 1=some F34x1:=by kernel_rfl
@[simp] theorem ft34x1:F34x1.type=3:=by kernel_rfl
@[simp] theorem fo34x1:F34x1.offset=1:=by kernel_rfl
def I35:TI:=(ti Try.prog 35).getD ⟨.bool,0,0,[],false⟩
@[simp] theorem ti35:ti Try.prog 35=some I35:=by kernel_rfl
@[simp] theorem si35:I35.size=1:=by kernel_rfl
@[simp] theorem by35:I35.bytes=24:=by kernel_rfl
@[simp] theorem ze35:I35.zero=[.snil]:=by kernel_rfl
@[simp] theorem za35:I35.zagg=false:=by kernel_rfl
@[simp] theorem de35:I35.desc=.slice 27:=by kernel_rfl
def I36:TI:=(ti Try.prog 36).getD ⟨.bool,0,0,[],false⟩
@[simp] theorem ti36:ti Try.prog 36=some I36:=by kernel_rfl
@[simp] theorem si36:I36.size=1:=by kernel_rfl
@[simp] theorem by36:I36.bytes=24:=by kernel_rfl
@[simp] theorem ze36:I36.zero=[.snil]:=by kernel_rfl
@[simp] theorem za36:I36.zagg=false:=by kernel_rfl
@[simp] theorem de36:I36.desc=.slice 102:=by kernel_rfl
def I38:TI:=(ti Try.prog 38).getD ⟨.bool,0,0,[],false⟩
@[simp] theorem ti38:ti Try.prog 38=some I38:=by kernel_rfl
@[simp] theorem si38:I38.size=2:=by kernel_rfl
@[simp] theorem by38:I38.bytes=48:=by kernel_rfl
@[simp] theorem ze38:I38.zero=[.snil,.snil]:=by kernel_rfl
@[simp] theorem za38:I38.zagg=true:=by kernel_rfl
@[simp] theorem ag38:isAggD I38.desc=true:=by kernel_rfl
@[simp] theorem st38:isStructD I38.desc=true:=by kernel_rfl
@[simp] theorem fk38:fieldsOk Try.prog (fieldsOf I38.desc)=true:=by kernel_rfl
def F38x0:Field:=(fieldOf I38 0).getD default
@[simp] theorem fi38x0:fieldOf I38 0=some F38x0:=by kernel_rfl
@[simp] theorem ft38x0:F38x0.type=35:=by kernel_rfl
@[simp] theorem fo38x0:F38x0.offset=0:=by kernel_rfl
def F38x1:Field:=(fieldOf I38 1).getD default
@[simp] theorem fi38x1:fieldOf I38 1=some F38x1:=by kernel_rfl
@[simp] theorem ft38x1:F38x1.type=36:=by kernel_rfl
@[simp] theorem fo38x1:F38x1.offset=1:=by kernel_rfl
def I40:TI:=(ti Try.prog 40).getD ⟨.bool,0,0,[],false⟩
@[simp] theorem ti40:ti Try.prog 40=some I40:=by kernel_rfl
@[simp] theorem si40:I40.size=1:=by kernel_rfl
@[simp] theorem by40:I40.bytes=24:=by kernel_rfl
@[simp] theorem ze40:I40.zero=[.snil]:=by kernel_rfl
@[simp] theorem za40:I40.zagg=false:=by kernel_rfl
@[simp] theorem de40:I40.desc=.slice 98:=by kernel_rfl
def I51:TI:=(ti Try.prog 51).getD ⟨.bool,0,0,[],false⟩
@[simp] theorem ti51:ti Try.prog 51=some I51:=by kernel_rfl
@[simp] theorem si51:I51.size=1:=by kernel_rfl
@[simp] theorem by51:I51.bytes=24:=by kernel_rfl
@[simp] theorem ze51:I51.zero=[.snil]:=by kernel_rfl
@[simp] theorem za51:I51.zagg=false:=by kernel_rfl
@[simp] theorem de51:I51.desc=.slice 38:=by kernel_rfl
def I69:TI:=(ti Try.prog 69).getD ⟨.bool,0,0,[],false⟩
@[simp] theorem ti69:ti Try.prog 69=some I69:=by kernel_rfl
@[simp] theorem si69:I69.size=1:=by kernel_rfl
@[simp] theorem by69:I69.bytes=24:=by kernel_rfl
@[simp] theorem ze69:I69.zero=[.snil]:=by kernel_rfl
@[simp] theorem za69:I69.zagg=false:=by kernel_rfl
@[simp] theorem de69:I69.desc=.slice 75:=by kernel_rfl
def I70:TI:=(ti Try.prog 70).getD ⟨.bool,0,0,[],false⟩
@[simp] theorem ti70:ti Try.prog 70=some I70:=by kernel_rfl
@[simp] theorem si70:I70.size=1:=by kernel_rfl
@[simp] theorem by70:I70.bytes=8:=by kernel_rfl
@[simp] theorem ze70:I70.zero=[.int .i64 0]:=by kernel_rfl
@[simp] theorem za70:I70.zagg=false:=by kernel_rfl
@[simp] theorem de70:I70.desc=.int .i64:=by kernel_rfl
def I75:TI:=(ti Try.prog 75).getD ⟨.bool,0,0,[],false⟩
@[simp] theorem ti75:ti Try.prog 75=some I75:=by kernel_rfl
@[simp] theorem si75:I75.size=6:=by kernel_rfl
@[simp] theorem by75:I75.bytes=72:=by kernel_rfl
@[simp] theorem ze75:I75.zero=[.int .i64 0,.int .i64 0,.str [],.int .i64 0,.int .i64 0,.snil]:=by kernel_rfl
@[simp] theorem za75:I75.zagg=true:=by kernel_rfl
@[simp] theorem ag75:isAggD I75.desc=true:=by kernel_rfl
@[simp] theorem st75:isStructD I75.desc=true:=by kernel_rfl
@[simp] theorem fk75:fieldsOk Try.prog (fieldsOf I75.desc)=true:=by kernel_rfl
def F75x0:Field:=(fieldOf I75 0).getD default
@[simp] theorem fi75x0:fieldOf I75 0=some F75x0:=by kernel_rfl
@[simp] theorem ft75x0:F75x0.type=3:=by kernel_rfl
@[simp] theorem fo75x0:F75x0.offset=0:=by kernel_rfl
def F75x1:Field:=(fieldOf I75 1).getD default
@[simp] theorem fi75x1:fieldOf I75 1=some F75x1:=by kernel_rfl
@[simp] theorem ft75x1:F75x1.type=25:=by kernel_rfl
@[simp] theorem fo75x1:F75x1.offset=1:=by kernel_rfl
def I81:TI:=(ti Try.prog 81).getD ⟨.bool,0,0,[],false⟩
@[simp] theorem ti81:ti Try.prog 81=some I81:=by kernel_rfl
@[simp] theorem si81:I81.size=1:=by kernel_rfl
@[simp] theorem by81:I81.bytes=24:=by kernel_rfl
@[simp] theorem ze81:I81.zero=[.snil]:=by kernel_rfl
@[simp] theorem za81:I81.zagg=false:=by kernel_rfl
@[simp] theorem de81:I81.desc=.slice 69:=by kernel_rfl
def I82:TI:=(ti Try.prog 82).getD ⟨.bool,0,0,[],false⟩
@[simp] theorem ti82:ti Try.prog 82=some I82:=by kernel_rfl
@[simp] theorem si82:I82.size=10:=by kernel_rfl
@[simp] theorem by82:I82.bytes=128:=by kernel_rfl
@[simp] theorem ze82:I82.zero=[.int .i64 0,.str [],.int .i64 0,.int .i64 0,.snil,.int .i64 0,.str [],.int .i64 0,.int .i64 0,.snil]:=by kernel_rfl
@[simp] theorem za82:I82.zagg=true:=by kernel_rfl
@[simp] theorem ag82:isAggD I82.desc=true:=by kernel_rfl
def I83:TI:=(ti Try.prog 83).getD ⟨.bool,0,0,[],false⟩
@[simp] theorem ti83:ti Try.prog 83=some I83:=by kernel_rfl
@[simp] theorem si83:I83.size=1:=by kernel_rfl
@[simp] theorem by83:I83.bytes=24:=by kernel_rfl
@[simp] theorem ze83:I83.zero=[.snil]:=by kernel_rfl
@[simp] theorem za83:I83.zagg=false:=by kernel_rfl
@[simp] theorem de83:I83.desc=.slice 82:=by kernel_rfl
def I95:TI:=(ti Try.prog 95).getD ⟨.bool,0,0,[],false⟩
@[simp] theorem ti95:ti Try.prog 95=some I95:=by kernel_rfl
@[simp] theorem si95:I95.size=1:=by kernel_rfl
@[simp] theorem by95:I95.bytes=24:=by kernel_rfl
@[simp] theorem ze95:I95.zero=[.snil]:=by kernel_rfl
@[simp] theorem za95:I95.zagg=false:=by kernel_rfl
@[simp] theorem de95:I95.desc=.slice 9:=by kernel_rfl
def I96:TI:=(ti Try.prog 96).getD ⟨.bool,0,0,[],false⟩
@[simp] theorem ti96:ti Try.prog 96=some I96:=by kernel_rfl
@[simp] theorem si96:I96.size=1:=by kernel_rfl
@[simp] theorem by96:I96.bytes=24:=by kernel_rfl
@[simp] theorem ze96:I96.zero=[.snil]:=by kernel_rfl
@[simp] theorem za96:I96.zagg=false:=by kernel_rfl
@[simp] theorem de96:I96.desc=.slice 188:=by kernel_rfl
def I98:TI:=(ti Try.prog 98).getD ⟨.bool,0,0,[],false⟩
@[simp] theorem ti98:ti Try.prog 98=some I98:=by kernel_rfl
@[simp] theorem si98:I98.size=4:=by kernel_rfl
@[simp] theorem by98:I98.bytes=72:=by kernel_rfl
@[simp] theorem ze98:I98.zero=[.int .i64 0,.str [],.snil,.snil]:=by kernel_rfl
@[simp] theorem za98:I98.zagg=true:=by kernel_rfl
@[simp] theorem ag98:isAggD I98.desc=true:=by kernel_rfl
@[simp] theorem st98:isStructD I98.desc=true:=by kernel_rfl
@[simp] theorem fk98:fieldsOk Try.prog (fieldsOf I98.desc)=true:=by kernel_rfl
def F98x0:Field:=(fieldOf I98 0).getD default
@[simp] theorem fi98x0:fieldOf I98 0=some F98x0:=by kernel_rfl
@[simp] theorem ft98x0:F98x0.type=3:=by kernel_rfl
@[simp] theorem fo98x0:F98x0.offset=0:=by kernel_rfl
def F98x1:Field:=(fieldOf I98 1).getD default
@[simp] theorem fi98x1:fieldOf I98 1=some F98x1:=by kernel_rfl
@[simp] theorem ft98x1:F98x1.type=9:=by kernel_rfl
@[simp] theorem fo98x1:F98x1.offset=1:=by kernel_rfl
def F98x2:Field:=(fieldOf I98 2).getD default
@[simp] theorem fi98x2:fieldOf I98 2=some F98x2:=by kernel_rfl
@[simp] theorem ft98x2:F98x2.type=95:=by kernel_rfl
@[simp] theorem fo98x2:F98x2.offset=2:=by kernel_rfl
def F98x3:Field:=(fieldOf I98 3).getD default
@[simp] theorem fi98x3:fieldOf I98 3=some F98x3:=by kernel_rfl
@[simp] theorem ft98x3:F98x3.type=96:=by kernel_rfl
@[simp] theorem fo98x3:F98x3.offset=3:=by kernel_rfl
def I99:TI:=(ti Try.prog 99).getD ⟨.bool,0,0,[],false⟩
@[simp] theorem ti99:ti Try.prog 99=some I99:=by kernel_rfl
@[simp] theorem si99:I99.size=1:=by kernel_rfl
@[simp] theorem by99:I99.bytes=8:=by kernel_rfl
@[simp] theorem ze99:I99.zero=[.int .u64 0]:=by kernel_rfl
@[simp] theorem za99:I99.zagg=false:=by kernel_rfl
@[simp] theorem de99:I99.desc=.int .u64:=by kernel_rfl
def I102:TI:=(ti Try.prog 102).getD ⟨.bool,0,0,[],false⟩
@[simp] theorem ti102:ti Try.prog 102=some I102:=by kernel_rfl
@[simp] theorem si102:I102.size=10:=by kernel_rfl
@[simp] theorem by102:I102.bytes=104:=by kernel_rfl
@[simp] theorem ze102:I102.zero=[.int .i64 0,.bool false,.int .i64 0,.str [],.int .i64 0,.int .i64 0,.snil,.int .i64 0,.bool false,.bool false]:=by kernel_rfl
@[simp] theorem za102:I102.zagg=true:=by kernel_rfl
@[simp] theorem ag102:isAggD I102.desc=true:=by kernel_rfl
@[simp] theorem st102:isStructD I102.desc=true:=by kernel_rfl
@[simp] theorem fk102:fieldsOk Try.prog (fieldsOf I102.desc)=true:=by kernel_rfl
def F102x0:Field:=(fieldOf I102 0).getD default
@[simp] theorem fi102x0:fieldOf I102 0=some F102x0:=by kernel_rfl
@[simp] theorem ft102x0:F102x0.type=3:=by kernel_rfl
@[simp] theorem fo102x0:F102x0.offset=0:=by kernel_rfl
def F102x1:Field:=(fieldOf I102 1).getD default
@[simp] theorem fi102x1:fieldOf I102 1=some F102x1:=by kernel_rfl
@[simp] theorem ft102x1:F102x1.type=27:=by kernel_rfl
@[simp] theorem fo102x1:F102x1.offset=1:=by kernel_rfl
def F102x2:Field:=(fieldOf I102 2).getD default
@[simp] theorem fi102x2:fieldOf I102 2=some F102x2:=by kernel_rfl
@[simp] theorem ft102x2:F102x2.type=4:=by kernel_rfl
@[simp] theorem fo102x2:F102x2.offset=9:=by kernel_rfl
def I114:TI:=(ti Try.prog 114).getD ⟨.bool,0,0,[],false⟩
@[simp] theorem ti114:ti Try.prog 114=some I114:=by kernel_rfl
@[simp] theorem si114:I114.size=1:=by kernel_rfl
@[simp] theorem by114:I114.bytes=8:=by kernel_rfl
@[simp] theorem ze114:I114.zero=[.nilmap]:=by kernel_rfl
@[simp] theorem za114:I114.zagg=false:=by kernel_rfl
@[simp] theorem de114:I114.desc=.map 3 4:=by kernel_rfl
def I115:TI:=(ti Try.prog 115).getD ⟨.bool,0,0,[],false⟩
@[simp] theorem ti115:ti Try.prog 115=some I115:=by kernel_rfl
@[simp] theorem si115:I115.size=1:=by kernel_rfl
@[simp] theorem by115:I115.bytes=8:=by kernel_rfl
@[simp] theorem ze115:I115.zero=[.nilFunc]:=by kernel_rfl
@[simp] theorem za115:I115.zagg=false:=by kernel_rfl
@[simp] theorem ag115:isAggD I115.desc=false:=by kernel_rfl
def I117:TI:=(ti Try.prog 117).getD ⟨.bool,0,0,[],false⟩
@[simp] theorem ti117:ti Try.prog 117=some I117:=by kernel_rfl
@[simp] theorem si117:I117.size=1:=by kernel_rfl
@[simp] theorem by117:I117.bytes=24:=by kernel_rfl
@[simp] theorem ze117:I117.zero=[.snil]:=by kernel_rfl
@[simp] theorem za117:I117.zagg=false:=by kernel_rfl
@[simp] theorem de117:I117.desc=.slice 4:=by kernel_rfl
def I119:TI:=(ti Try.prog 119).getD ⟨.bool,0,0,[],false⟩
@[simp] theorem ti119:ti Try.prog 119=some I119:=by kernel_rfl
@[simp] theorem si119:I119.size=4:=by kernel_rfl
@[simp] theorem by119:I119.bytes=96:=by kernel_rfl
@[simp] theorem ze119:I119.zero=[.snil,.snil,.snil,.snil]:=by kernel_rfl
@[simp] theorem za119:I119.zagg=true:=by kernel_rfl
@[simp] theorem ag119:isAggD I119.desc=true:=by kernel_rfl
@[simp] theorem st119:isStructD I119.desc=true:=by kernel_rfl
@[simp] theorem fk119:fieldsOk Try.prog (fieldsOf I119.desc)=true:=by kernel_rfl
def F119x0:Field:=(fieldOf I119 0).getD default
@[simp] theorem fi119x0:fieldOf I119 0=some F119x0:=by kernel_rfl
@[simp] theorem ft119x0:F119x0.type=38:=by kernel_rfl
@[simp] theorem fo119x0:F119x0.offset=0:=by kernel_rfl
def F119x1:Field:=(fieldOf I119 1).getD default
@[simp] theorem fi119x1:fieldOf I119 1=some F119x1:=by kernel_rfl
@[simp] theorem ft119x1:F119x1.type=22:=by kernel_rfl
@[simp] theorem fo119x1:F119x1.offset=2:=by kernel_rfl
def F119x2:Field:=(fieldOf I119 2).getD default
@[simp] theorem fi119x2:fieldOf I119 2=some F119x2:=by kernel_rfl
@[simp] theorem ft119x2:F119x2.type=117:=by kernel_rfl
@[simp] theorem fo119x2:F119x2.offset=3:=by kernel_rfl
def I129:TI:=(ti Try.prog 129).getD ⟨.bool,0,0,[],false⟩
@[simp] theorem ti129:ti Try.prog 129=some I129:=by kernel_rfl
@[simp] theorem si129:I129.size=1:=by kernel_rfl
@[simp] theorem by129:I129.bytes=24:=by kernel_rfl
@[simp] theorem ze129:I129.zero=[.snil]:=by kernel_rfl
@[simp] theorem za129:I129.zagg=false:=by kernel_rfl
@[simp] theorem de129:I129.desc=.slice 133:=by kernel_rfl
def I133:TI:=(ti Try.prog 133).getD ⟨.bool,0,0,[],false⟩
@[simp] theorem ti133:ti Try.prog 133=some I133:=by kernel_rfl
@[simp] theorem si133:I133.size=10:=by kernel_rfl
@[simp] theorem by133:I133.bytes=128:=by kernel_rfl
@[simp] theorem ze133:I133.zero=[.int .i64 0,.str [],.int .i64 0,.int .i64 0,.snil,.int .i64 0,.str [],.int .i64 0,.int .i64 0,.snil]:=by kernel_rfl
@[simp] theorem za133:I133.zagg=true:=by kernel_rfl
@[simp] theorem ag133:isAggD I133.desc=true:=by kernel_rfl
@[simp] theorem st133:isStructD I133.desc=true:=by kernel_rfl
@[simp] theorem fk133:fieldsOk Try.prog (fieldsOf I133.desc)=true:=by kernel_rfl
def F133x0:Field:=(fieldOf I133 0).getD default
@[simp] theorem fi133x0:fieldOf I133 0=some F133x0:=by kernel_rfl
@[simp] theorem ft133x0:F133x0.type=25:=by kernel_rfl
@[simp] theorem fo133x0:F133x0.offset=0:=by kernel_rfl
def F133x1:Field:=(fieldOf I133 1).getD default
@[simp] theorem fi133x1:fieldOf I133 1=some F133x1:=by kernel_rfl
@[simp] theorem ft133x1:F133x1.type=25:=by kernel_rfl
@[simp] theorem fo133x1:F133x1.offset=5:=by kernel_rfl
def I143:TI:=(ti Try.prog 143).getD ⟨.bool,0,0,[],false⟩
@[simp] theorem ti143:ti Try.prog 143=some I143:=by kernel_rfl
@[simp] theorem si143:I143.size=1:=by kernel_rfl
@[simp] theorem by143:I143.bytes=8:=by kernel_rfl
@[simp] theorem ze143:I143.zero=[.nilmap]:=by kernel_rfl
@[simp] theorem za143:I143.zagg=false:=by kernel_rfl
@[simp] theorem de143:I143.desc=.map 3 25:=by kernel_rfl
def I145:TI:=(ti Try.prog 145).getD ⟨.bool,0,0,[],false⟩
@[simp] theorem ti145:ti Try.prog 145=some I145:=by kernel_rfl
@[simp] theorem si145:I145.size=2:=by kernel_rfl
@[simp] theorem by145:I145.bytes=16:=by kernel_rfl
@[simp] theorem ze145:I145.zero=[.nilmap,.nilmap]:=by kernel_rfl
@[simp] theorem za145:I145.zagg=true:=by kernel_rfl
@[simp] theorem ag145:isAggD I145.desc=true:=by kernel_rfl
@[simp] theorem st145:isStructD I145.desc=true:=by kernel_rfl
@[simp] theorem fk145:fieldsOk Try.prog (fieldsOf I145.desc)=true:=by kernel_rfl
def F145x0:Field:=(fieldOf I145 0).getD default
@[simp] theorem fi145x0:fieldOf I145 0=some F145x0:=by kernel_rfl
@[simp] theorem ft145x0:F145x0.type=143:=by kernel_rfl
@[simp] theorem fo145x0:F145x0.offset=0:=by kernel_rfl
def F145x1:Field:=(fieldOf I145 1).getD default
@[simp] theorem fi145x1:fieldOf I145 1=some F145x1:=by kernel_rfl
@[simp] theorem ft145x1:F145x1.type=143:=by kernel_rfl
@[simp] theorem fo145x1:F145x1.offset=1:=by kernel_rfl
def I188:TI:=(ti Try.prog 188).getD ⟨.bool,0,0,[],false⟩
@[simp] theorem ti188:ti Try.prog 188=some I188:=by kernel_rfl
@[simp] theorem si188:I188.size=3:=by kernel_rfl
@[simp] theorem by188:I188.bytes=48:=by kernel_rfl
@[simp] theorem ze188:I188.zero=[.int .i64 0,.str [],.snil]:=by kernel_rfl
@[simp] theorem za188:I188.zagg=true:=by kernel_rfl
@[simp] theorem ag188:isAggD I188.desc=true:=by kernel_rfl
@[simp] theorem st188:isStructD I188.desc=true:=by kernel_rfl
@[simp] theorem fk188:fieldsOk Try.prog (fieldsOf I188.desc)=true:=by kernel_rfl
def F188x0:Field:=(fieldOf I188 0).getD default
@[simp] theorem fi188x0:fieldOf I188 0=some F188x0:=by kernel_rfl
@[simp] theorem ft188x0:F188x0.type=3:=by kernel_rfl
@[simp] theorem fo188x0:F188x0.offset=0:=by kernel_rfl
def F188x1:Field:=(fieldOf I188 1).getD default
@[simp] theorem fi188x1:fieldOf I188 1=some F188x1:=by kernel_rfl
@[simp] theorem ft188x1:F188x1.type=9:=by kernel_rfl
@[simp] theorem fo188x1:F188x1.offset=1:=by kernel_rfl
def F188x2:Field:=(fieldOf I188 2).getD default
@[simp] theorem fi188x2:fieldOf I188 2=some F188x2:=by kernel_rfl
@[simp] theorem ft188x2:F188x2.type=23:=by kernel_rfl
@[simp] theorem fo188x2:F188x2.offset=2:=by kernel_rfl
end Go.Proofs.Ythfcfmkdeheicaa
