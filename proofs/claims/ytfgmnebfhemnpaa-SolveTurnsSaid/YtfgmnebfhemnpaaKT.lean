import Derived.Test.YtfgmnebfhemnpaaJH
import Derived.Test.YtfgmnebfhemnpaaRows
set_option linter.all false
noncomputable section
namespace Go.Proofs.Ytfgmnebfhemnpaa
open Go.J
def I3:TI:=(ti Try.prog 3).getD ⟨.bool,0,0,[],false⟩
@[simp] theorem ti3:ti Try.prog 3=some I3:=by kernel_rfl
@[simp] theorem si3:I3.size=1:=by kernel_rfl
@[simp] theorem by3:I3.bytes=8:=by kernel_rfl
@[simp] theorem ze3:I3.zero=[.int .i64 0]:=by kernel_rfl
@[simp] theorem za3:I3.zagg=false:=by kernel_rfl
@[simp] theorem de3:I3.desc=.int .i64:=by kernel_rfl
def I4:TI:=(ti Try.prog 4).getD ⟨.bool,0,0,[],false⟩
@[simp] theorem ti4:ti Try.prog 4=some I4:=by kernel_rfl
@[simp] theorem si4:I4.size=1:=by kernel_rfl
@[simp] theorem by4:I4.bytes=1:=by kernel_rfl
@[simp] theorem ze4:I4.zero=[.bool false]:=by kernel_rfl
@[simp] theorem za4:I4.zagg=false:=by kernel_rfl
@[simp] theorem de4:I4.desc=.bool:=by kernel_rfl
def I5:TI:=(ti Try.prog 5).getD ⟨.bool,0,0,[],false⟩
@[simp] theorem ti5:ti Try.prog 5=some I5:=by kernel_rfl
@[simp] theorem si5:I5.size=1:=by kernel_rfl
@[simp] theorem by5:I5.bytes=1:=by kernel_rfl
@[simp] theorem ze5:I5.zero=[.int .u8 0]:=by kernel_rfl
@[simp] theorem za5:I5.zagg=false:=by kernel_rfl
@[simp] theorem de5:I5.desc=.int .u8:=by kernel_rfl
def I9:TI:=(ti Try.prog 9).getD ⟨.bool,0,0,[],false⟩
@[simp] theorem ti9:ti Try.prog 9=some I9:=by kernel_rfl
@[simp] theorem si9:I9.size=1:=by kernel_rfl
@[simp] theorem by9:I9.bytes=16:=by kernel_rfl
@[simp] theorem ze9:I9.zero=[.str []]:=by kernel_rfl
@[simp] theorem za9:I9.zagg=false:=by kernel_rfl
@[simp] theorem de9:I9.desc=.string:=by kernel_rfl
def I22:TI:=(ti Try.prog 22).getD ⟨.bool,0,0,[],false⟩
@[simp] theorem ti22:ti Try.prog 22=some I22:=by kernel_rfl
@[simp] theorem si22:I22.size=1:=by kernel_rfl
@[simp] theorem by22:I22.bytes=24:=by kernel_rfl
@[simp] theorem ze22:I22.zero=[.snil]:=by kernel_rfl
@[simp] theorem za22:I22.zagg=false:=by kernel_rfl
@[simp] theorem de22:I22.desc=.slice 3:=by kernel_rfl
def I25:TI:=(ti Try.prog 25).getD ⟨.bool,0,0,[],false⟩
@[simp] theorem ti25:ti Try.prog 25=some I25:=by kernel_rfl
@[simp] theorem si25:I25.size=1:=by kernel_rfl
@[simp] theorem by25:I25.bytes=24:=by kernel_rfl
@[simp] theorem ze25:I25.zero=[.snil]:=by kernel_rfl
@[simp] theorem za25:I25.zagg=false:=by kernel_rfl
@[simp] theorem de25:I25.desc=.slice 33:=by kernel_rfl
def I29:TI:=(ti Try.prog 29).getD ⟨.bool,0,0,[],false⟩
@[simp] theorem ti29:ti Try.prog 29=some I29:=by kernel_rfl
@[simp] theorem si29:I29.size=1:=by kernel_rfl
@[simp] theorem by29:I29.bytes=24:=by kernel_rfl
@[simp] theorem ze29:I29.zero=[.snil]:=by kernel_rfl
@[simp] theorem za29:I29.zagg=false:=by kernel_rfl
@[simp] theorem de29:I29.desc=.slice 31:=by kernel_rfl
def I31:TI:=(ti Try.prog 31).getD ⟨.bool,0,0,[],false⟩
@[simp] theorem ti31:ti Try.prog 31=some I31:=by kernel_rfl
@[simp] theorem si31:I31.size=5:=by kernel_rfl
@[simp] theorem by31:I31.bytes=64:=by kernel_rfl
@[simp] theorem ze31:I31.zero=[.int .i64 0,.str [],.int .i64 0,.int .i64 0,.snil]:=by kernel_rfl
@[simp] theorem za31:I31.zagg=true:=by kernel_rfl
@[simp] theorem ag31:isAggD I31.desc=true:=by kernel_rfl
@[simp] theorem st31:isStructD I31.desc=true:=by kernel_rfl
@[simp] theorem fk31:fieldsOk Try.prog (fieldsOf I31.desc)=true:=by kernel_rfl
def F31x0:Field:=(fieldOf I31 0).getD default
@[simp] theorem fi31x0:fieldOf I31 0=some F31x0:=by kernel_rfl
@[simp] theorem ft31x0:F31x0.type=3:=by kernel_rfl
@[simp] theorem fo31x0:F31x0.offset=0:=by kernel_rfl
def F31x1:Field:=(fieldOf I31 1).getD default
@[simp] theorem fi31x1:fieldOf I31 1=some F31x1:=by kernel_rfl
@[simp] theorem ft31x1:F31x1.type=9:=by kernel_rfl
@[simp] theorem fo31x1:F31x1.offset=1:=by kernel_rfl
def F31x2:Field:=(fieldOf I31 2).getD default
@[simp] theorem fi31x2:fieldOf I31 2=some F31x2:=by kernel_rfl
@[simp] theorem ft31x2:F31x2.type=3:=by kernel_rfl
@[simp] theorem fo31x2:F31x2.offset=2:=by kernel_rfl
def F31x3:Field:=(fieldOf I31 3).getD default
@[simp] theorem fi31x3:fieldOf I31 3=some F31x3:=by kernel_rfl
@[simp] theorem ft31x3:F31x3.type=3:=by kernel_rfl
@[simp] theorem fo31x3:F31x3.offset=3:=by kernel_rfl
def F31x4:Field:=(fieldOf I31 4).getD default
@[simp] theorem fi31x4:fieldOf I31 4=some F31x4:=by kernel_rfl
@[simp] theorem ft31x4:F31x4.type=29:=by kernel_rfl
@[simp] theorem fo31x4:F31x4.offset=4:=by kernel_rfl
def I33:TI:=(ti Try.prog 33).getD ⟨.bool,0,0,[],false⟩
@[simp] theorem ti33:ti Try.prog 33=some I33:=by kernel_rfl
@[simp] theorem si33:I33.size=10:=by kernel_rfl
@[simp] theorem by33:I33.bytes=128:=by kernel_rfl
@[simp] theorem ze33:I33.zero=[.int .i64 0,.str [],.int .i64 0,.int .i64 0,.snil,.int .i64 0,.str [],.int .i64 0,.int .i64 0,.snil]:=by kernel_rfl
@[simp] theorem za33:I33.zagg=true:=by kernel_rfl
@[simp] theorem ag33:isAggD I33.desc=true:=by kernel_rfl
@[simp] theorem st33:isStructD I33.desc=true:=by kernel_rfl
@[simp] theorem fk33:fieldsOk Try.prog (fieldsOf I33.desc)=true:=by kernel_rfl
def F33x0:Field:=(fieldOf I33 0).getD default
@[simp] theorem fi33x0:fieldOf I33 0=some F33x0:=by kernel_rfl
@[simp] theorem ft33x0:F33x0.type=31:=by kernel_rfl
@[simp] theorem fo33x0:F33x0.offset=0:=by kernel_rfl
def F33x1:Field:=(fieldOf I33 1).getD default
@[simp] theorem fi33x1:fieldOf I33 1=some F33x1:=by kernel_rfl
@[simp] theorem ft33x1:F33x1.type=31:=by kernel_rfl
@[simp] theorem fo33x1:F33x1.offset=5:=by kernel_rfl
def I34:TI:=(ti Try.prog 34).getD ⟨.bool,0,0,[],false⟩
@[simp] theorem ti34:ti Try.prog 34=some I34:=by kernel_rfl
@[simp] theorem si34:I34.size=1:=by kernel_rfl
@[simp] theorem by34:I34.bytes=24:=by kernel_rfl
@[simp] theorem ze34:I34.zero=[.snil]:=by kernel_rfl
@[simp] theorem za34:I34.zagg=false:=by kernel_rfl
@[simp] theorem de34:I34.desc=.slice 82:=by kernel_rfl
def I35:TI:=(ti Try.prog 35).getD ⟨.bool,0,0,[],false⟩
@[simp] theorem ti35:ti Try.prog 35=some I35:=by kernel_rfl
@[simp] theorem si35:I35.size=1:=by kernel_rfl
@[simp] theorem by35:I35.bytes=8:=by kernel_rfl
@[simp] theorem ze35:I35.zero=[.int .i64 0]:=by kernel_rfl
@[simp] theorem za35:I35.zagg=false:=by kernel_rfl
@[simp] theorem de35:I35.desc=.int .i64:=by kernel_rfl
def I45:TI:=(ti Try.prog 45).getD ⟨.bool,0,0,[],false⟩
@[simp] theorem ti45:ti Try.prog 45=some I45:=by kernel_rfl
@[simp] theorem si45:I45.size=2:=by kernel_rfl
@[simp] theorem by45:I45.bytes=32:=by kernel_rfl
@[simp] theorem ze45:I45.zero=[.snil,.int .i64 0]:=by kernel_rfl
@[simp] theorem za45:I45.zagg=true:=by kernel_rfl
@[simp] theorem ag45:isAggD I45.desc=true:=by kernel_rfl
@[simp] theorem st45:isStructD I45.desc=true:=by kernel_rfl
@[simp] theorem fk45:fieldsOk Try.prog (fieldsOf I45.desc)=true:=by kernel_rfl
def F45x0:Field:=(fieldOf I45 0).getD default
@[simp] theorem fi45x0:fieldOf I45 0=some F45x0:=by kernel_rfl
@[simp] theorem ft45x0:F45x0.type=22:=by kernel_rfl
@[simp] theorem fo45x0:F45x0.offset=0:=by kernel_rfl
def F45x1:Field:=(fieldOf I45 1).getD default
@[simp] theorem fi45x1:fieldOf I45 1=some F45x1:=by kernel_rfl
@[simp] theorem ft45x1:F45x1.type=3:=by kernel_rfl
@[simp] theorem fo45x1:F45x1.offset=1:=by kernel_rfl
def I47:TI:=(ti Try.prog 47).getD ⟨.bool,0,0,[],false⟩
@[simp] theorem ti47:ti Try.prog 47=some I47:=by kernel_rfl
@[simp] theorem si47:I47.size=1:=by kernel_rfl
@[simp] theorem by47:I47.bytes=24:=by kernel_rfl
@[simp] theorem ze47:I47.zero=[.snil]:=by kernel_rfl
@[simp] theorem za47:I47.zagg=false:=by kernel_rfl
@[simp] theorem de47:I47.desc=.slice 72:=by kernel_rfl
def I50:TI:=(ti Try.prog 50).getD ⟨.bool,0,0,[],false⟩
@[simp] theorem ti50:ti Try.prog 50=some I50:=by kernel_rfl
@[simp] theorem si50:I50.size=1:=by kernel_rfl
@[simp] theorem by50:I50.bytes=8:=by kernel_rfl
@[simp] theorem ze50:I50.zero=[.nilptr]:=by kernel_rfl
@[simp] theorem za50:I50.zagg=false:=by kernel_rfl
@[simp] theorem de50:I50.desc=.pointer 76:=by kernel_rfl
def I53:TI:=(ti Try.prog 53).getD ⟨.bool,0,0,[],false⟩
@[simp] theorem ti53:ti Try.prog 53=some I53:=by kernel_rfl
@[simp] theorem si53:I53.size=1:=by kernel_rfl
@[simp] theorem by53:I53.bytes=8:=by kernel_rfl
@[simp] theorem ze53:I53.zero=[.nilFunc]:=by kernel_rfl
@[simp] theorem za53:I53.zagg=false:=by kernel_rfl
@[simp] theorem ag53:isAggD I53.desc=false:=by kernel_rfl
def I69:TI:=(ti Try.prog 69).getD ⟨.bool,0,0,[],false⟩
@[simp] theorem ti69:ti Try.prog 69=some I69:=by kernel_rfl
@[simp] theorem si69:I69.size=1:=by kernel_rfl
@[simp] theorem by69:I69.bytes=24:=by kernel_rfl
@[simp] theorem ze69:I69.zero=[.snil]:=by kernel_rfl
@[simp] theorem za69:I69.zagg=false:=by kernel_rfl
@[simp] theorem de69:I69.desc=.slice 9:=by kernel_rfl
def I70:TI:=(ti Try.prog 70).getD ⟨.bool,0,0,[],false⟩
@[simp] theorem ti70:ti Try.prog 70=some I70:=by kernel_rfl
@[simp] theorem si70:I70.size=1:=by kernel_rfl
@[simp] theorem by70:I70.bytes=24:=by kernel_rfl
@[simp] theorem ze70:I70.zero=[.snil]:=by kernel_rfl
@[simp] theorem za70:I70.zagg=false:=by kernel_rfl
@[simp] theorem de70:I70.desc=.slice 135:=by kernel_rfl
def I72:TI:=(ti Try.prog 72).getD ⟨.bool,0,0,[],false⟩
@[simp] theorem ti72:ti Try.prog 72=some I72:=by kernel_rfl
@[simp] theorem si72:I72.size=4:=by kernel_rfl
@[simp] theorem by72:I72.bytes=72:=by kernel_rfl
@[simp] theorem ze72:I72.zero=[.int .i64 0,.str [],.snil,.snil]:=by kernel_rfl
@[simp] theorem za72:I72.zagg=true:=by kernel_rfl
@[simp] theorem ag72:isAggD I72.desc=true:=by kernel_rfl
@[simp] theorem st72:isStructD I72.desc=true:=by kernel_rfl
@[simp] theorem fk72:fieldsOk Try.prog (fieldsOf I72.desc)=true:=by kernel_rfl
def F72x0:Field:=(fieldOf I72 0).getD default
@[simp] theorem fi72x0:fieldOf I72 0=some F72x0:=by kernel_rfl
@[simp] theorem ft72x0:F72x0.type=3:=by kernel_rfl
@[simp] theorem fo72x0:F72x0.offset=0:=by kernel_rfl
def F72x1:Field:=(fieldOf I72 1).getD default
@[simp] theorem fi72x1:fieldOf I72 1=some F72x1:=by kernel_rfl
@[simp] theorem ft72x1:F72x1.type=9:=by kernel_rfl
@[simp] theorem fo72x1:F72x1.offset=1:=by kernel_rfl
def F72x2:Field:=(fieldOf I72 2).getD default
@[simp] theorem fi72x2:fieldOf I72 2=some F72x2:=by kernel_rfl
@[simp] theorem ft72x2:F72x2.type=69:=by kernel_rfl
@[simp] theorem fo72x2:F72x2.offset=2:=by kernel_rfl
def F72x3:Field:=(fieldOf I72 3).getD default
@[simp] theorem fi72x3:fieldOf I72 3=some F72x3:=by kernel_rfl
@[simp] theorem ft72x3:F72x3.type=70:=by kernel_rfl
@[simp] theorem fo72x3:F72x3.offset=3:=by kernel_rfl
def I73:TI:=(ti Try.prog 73).getD ⟨.bool,0,0,[],false⟩
@[simp] theorem ti73:ti Try.prog 73=some I73:=by kernel_rfl
@[simp] theorem si73:I73.size=1:=by kernel_rfl
@[simp] theorem by73:I73.bytes=8:=by kernel_rfl
@[simp] theorem ze73:I73.zero=[.int .u64 0]:=by kernel_rfl
@[simp] theorem za73:I73.zagg=false:=by kernel_rfl
@[simp] theorem de73:I73.desc=.int .u64:=by kernel_rfl
def I74:TI:=(ti Try.prog 74).getD ⟨.bool,0,0,[],false⟩
@[simp] theorem ti74:ti Try.prog 74=some I74:=by kernel_rfl
@[simp] theorem si74:I74.size=1:=by kernel_rfl
@[simp] theorem by74:I74.bytes=8:=by kernel_rfl
@[simp] theorem ze74:I74.zero=[.nilmap]:=by kernel_rfl
@[simp] theorem za74:I74.zagg=false:=by kernel_rfl
@[simp] theorem de74:I74.desc=.map 3 31:=by kernel_rfl
def I76:TI:=(ti Try.prog 76).getD ⟨.bool,0,0,[],false⟩
@[simp] theorem ti76:ti Try.prog 76=some I76:=by kernel_rfl
@[simp] theorem si76:I76.size=2:=by kernel_rfl
@[simp] theorem by76:I76.bytes=16:=by kernel_rfl
@[simp] theorem ze76:I76.zero=[.nilmap,.nilmap]:=by kernel_rfl
@[simp] theorem za76:I76.zagg=true:=by kernel_rfl
@[simp] theorem ag76:isAggD I76.desc=true:=by kernel_rfl
@[simp] theorem st76:isStructD I76.desc=true:=by kernel_rfl
@[simp] theorem fk76:fieldsOk Try.prog (fieldsOf I76.desc)=true:=by kernel_rfl
def F76x0:Field:=(fieldOf I76 0).getD default
@[simp] theorem fi76x0:fieldOf I76 0=some F76x0:=by kernel_rfl
@[simp] theorem ft76x0:F76x0.type=74:=by kernel_rfl
@[simp] theorem fo76x0:F76x0.offset=0:=by kernel_rfl
def F76x1:Field:=(fieldOf I76 1).getD default
@[simp] theorem fi76x1:fieldOf I76 1=some F76x1:=by kernel_rfl
@[simp] theorem ft76x1:F76x1.type=74:=by kernel_rfl
@[simp] theorem fo76x1:F76x1.offset=1:=by kernel_rfl
def I82:TI:=(ti Try.prog 82).getD ⟨.bool,0,0,[],false⟩
@[simp] theorem ti82:ti Try.prog 82=some I82:=by kernel_rfl
@[simp] theorem si82:I82.size=6:=by kernel_rfl
@[simp] theorem by82:I82.bytes=72:=by kernel_rfl
@[simp] theorem ze82:I82.zero=[.int .i64 0,.int .i64 0,.str [],.int .i64 0,.int .i64 0,.snil]:=by kernel_rfl
@[simp] theorem za82:I82.zagg=true:=by kernel_rfl
@[simp] theorem ag82:isAggD I82.desc=true:=by kernel_rfl
@[simp] theorem st82:isStructD I82.desc=true:=by kernel_rfl
@[simp] theorem fk82:fieldsOk Try.prog (fieldsOf I82.desc)=true:=by kernel_rfl
def F82x0:Field:=(fieldOf I82 0).getD default
@[simp] theorem fi82x0:fieldOf I82 0=some F82x0:=by kernel_rfl
@[simp] theorem ft82x0:F82x0.type=3:=by kernel_rfl
@[simp] theorem fo82x0:F82x0.offset=0:=by kernel_rfl
def F82x1:Field:=(fieldOf I82 1).getD default
@[simp] theorem fi82x1:fieldOf I82 1=some F82x1:=by kernel_rfl
@[simp] theorem ft82x1:F82x1.type=31:=by kernel_rfl
@[simp] theorem fo82x1:F82x1.offset=1:=by kernel_rfl
def I101:TI:=(ti Try.prog 101).getD ⟨.bool,0,0,[],false⟩
@[simp] theorem ti101:ti Try.prog 101=some I101:=by kernel_rfl
@[simp] theorem si101:I101.size=1:=by kernel_rfl
@[simp] theorem by101:I101.bytes=8:=by kernel_rfl
@[simp] theorem ze101:I101.zero=[.nilmap]:=by kernel_rfl
@[simp] theorem za101:I101.zagg=false:=by kernel_rfl
@[simp] theorem de101:I101.desc=.map 3 4:=by kernel_rfl
def I135:TI:=(ti Try.prog 135).getD ⟨.bool,0,0,[],false⟩
@[simp] theorem ti135:ti Try.prog 135=some I135:=by kernel_rfl
@[simp] theorem si135:I135.size=3:=by kernel_rfl
@[simp] theorem by135:I135.bytes=48:=by kernel_rfl
@[simp] theorem ze135:I135.zero=[.int .i64 0,.str [],.snil]:=by kernel_rfl
@[simp] theorem za135:I135.zagg=true:=by kernel_rfl
@[simp] theorem ag135:isAggD I135.desc=true:=by kernel_rfl
@[simp] theorem st135:isStructD I135.desc=true:=by kernel_rfl
@[simp] theorem fk135:fieldsOk Try.prog (fieldsOf I135.desc)=true:=by kernel_rfl
def F135x0:Field:=(fieldOf I135 0).getD default
@[simp] theorem fi135x0:fieldOf I135 0=some F135x0:=by kernel_rfl
@[simp] theorem ft135x0:F135x0.type=3:=by kernel_rfl
@[simp] theorem fo135x0:F135x0.offset=0:=by kernel_rfl
def F135x1:Field:=(fieldOf I135 1).getD default
@[simp] theorem fi135x1:fieldOf I135 1=some F135x1:=by kernel_rfl
@[simp] theorem ft135x1:F135x1.type=9:=by kernel_rfl
@[simp] theorem fo135x1:F135x1.offset=1:=by kernel_rfl
def F135x2:Field:=(fieldOf I135 2).getD default
@[simp] theorem fi135x2:fieldOf I135 2=some F135x2:=by kernel_rfl
@[simp] theorem ft135x2:F135x2.type=29:=by kernel_rfl
@[simp] theorem fo135x2:F135x2.offset=2:=by kernel_rfl
end Go.Proofs.Ytfgmnebfhemnpaa
