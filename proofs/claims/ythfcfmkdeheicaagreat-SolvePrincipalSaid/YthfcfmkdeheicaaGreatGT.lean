import Derived.Test.YthfcfmkdeheicaaGreatJH
import Derived.Test.YthfcfmkdeheicaaGreatRows
set_option linter.all false
noncomputable section
namespace Go.Proofs.YthfcfmkdeheicaaGreat
open Go.J
def I3:TI:=(ti Tryz.prog 3).getD ⟨.bool,0,0,[],false⟩
@[simp] theorem ti3:ti Tryz.prog 3=some I3:=by kernel_rfl
@[simp] theorem si3:I3.size=1:=by kernel_rfl
@[simp] theorem by3:I3.bytes=8:=by kernel_rfl
@[simp] theorem ze3:I3.zero=[.int .i64 0]:=by kernel_rfl
@[simp] theorem za3:I3.zagg=false:=by kernel_rfl
@[simp] theorem de3:I3.desc=.int .i64:=by kernel_rfl
def I4:TI:=(ti Tryz.prog 4).getD ⟨.bool,0,0,[],false⟩
@[simp] theorem ti4:ti Tryz.prog 4=some I4:=by kernel_rfl
@[simp] theorem si4:I4.size=1:=by kernel_rfl
@[simp] theorem by4:I4.bytes=1:=by kernel_rfl
@[simp] theorem ze4:I4.zero=[.bool false]:=by kernel_rfl
@[simp] theorem za4:I4.zagg=false:=by kernel_rfl
@[simp] theorem de4:I4.desc=.bool:=by kernel_rfl
def I5:TI:=(ti Tryz.prog 5).getD ⟨.bool,0,0,[],false⟩
@[simp] theorem ti5:ti Tryz.prog 5=some I5:=by kernel_rfl
@[simp] theorem si5:I5.size=1:=by kernel_rfl
@[simp] theorem by5:I5.bytes=1:=by kernel_rfl
@[simp] theorem ze5:I5.zero=[.int .u8 0]:=by kernel_rfl
@[simp] theorem za5:I5.zagg=false:=by kernel_rfl
@[simp] theorem de5:I5.desc=.int .u8:=by kernel_rfl
def I9:TI:=(ti Tryz.prog 9).getD ⟨.bool,0,0,[],false⟩
@[simp] theorem ti9:ti Tryz.prog 9=some I9:=by kernel_rfl
@[simp] theorem si9:I9.size=1:=by kernel_rfl
@[simp] theorem by9:I9.bytes=16:=by kernel_rfl
@[simp] theorem ze9:I9.zero=[.str []]:=by kernel_rfl
@[simp] theorem za9:I9.zagg=false:=by kernel_rfl
@[simp] theorem de9:I9.desc=.string:=by kernel_rfl
def I22:TI:=(ti Tryz.prog 22).getD ⟨.bool,0,0,[],false⟩
@[simp] theorem ti22:ti Tryz.prog 22=some I22:=by kernel_rfl
@[simp] theorem si22:I22.size=1:=by kernel_rfl
@[simp] theorem by22:I22.bytes=24:=by kernel_rfl
@[simp] theorem ze22:I22.zero=[.snil]:=by kernel_rfl
@[simp] theorem za22:I22.zagg=false:=by kernel_rfl
@[simp] theorem de22:I22.desc=.slice 45:=by kernel_rfl
def I23:TI:=(ti Tryz.prog 23).getD ⟨.bool,0,0,[],false⟩
@[simp] theorem ti23:ti Tryz.prog 23=some I23:=by kernel_rfl
@[simp] theorem si23:I23.size=1:=by kernel_rfl
@[simp] theorem by23:I23.bytes=24:=by kernel_rfl
@[simp] theorem ze23:I23.zero=[.snil]:=by kernel_rfl
@[simp] theorem za23:I23.zagg=false:=by kernel_rfl
@[simp] theorem de23:I23.desc=.slice 88:=by kernel_rfl
def I25:TI:=(ti Tryz.prog 25).getD ⟨.bool,0,0,[],false⟩
@[simp] theorem ti25:ti Tryz.prog 25=some I25:=by kernel_rfl
@[simp] theorem si25:I25.size=2:=by kernel_rfl
@[simp] theorem by25:I25.bytes=48:=by kernel_rfl
@[simp] theorem ze25:I25.zero=[.snil,.snil]:=by kernel_rfl
@[simp] theorem za25:I25.zagg=true:=by kernel_rfl
@[simp] theorem ag25:zbk I25.desc=true:=by kernel_rfl
@[simp] theorem st25:zV I25.desc=true:=by kernel_rfl
@[simp] theorem fk25:zav Tryz.prog (fieldsOf I25.desc)=true:=by kernel_rfl
def F25x0:Field:=(zk I25 0).getD default
@[simp] theorem fi25x0:zk I25 0=some F25x0:=by kernel_rfl
@[simp] theorem ft25x0:F25x0.type=22:=by kernel_rfl
@[simp] theorem fo25x0:F25x0.offset=0:=by kernel_rfl
def F25x1:Field:=(zk I25 1).getD default
@[simp] theorem fi25x1:zk I25 1=some F25x1:=by kernel_rfl
@[simp] theorem ft25x1:F25x1.type=23:=by kernel_rfl
@[simp] theorem fo25x1:F25x1.offset=1:=by kernel_rfl
def I26:TI:=(ti Tryz.prog 26).getD ⟨.bool,0,0,[],false⟩
@[simp] theorem ti26:ti Tryz.prog 26=some I26:=by kernel_rfl
@[simp] theorem si26:I26.size=1:=by kernel_rfl
@[simp] theorem by26:I26.bytes=24:=by kernel_rfl
@[simp] theorem ze26:I26.zero=[.snil]:=by kernel_rfl
@[simp] theorem za26:I26.zagg=false:=by kernel_rfl
@[simp] theorem de26:I26.desc=.slice 3:=by kernel_rfl
def I32:TI:=(ti Tryz.prog 32).getD ⟨.bool,0,0,[],false⟩
@[simp] theorem ti32:ti Tryz.prog 32=some I32:=by kernel_rfl
@[simp] theorem si32:I32.size=2:=by kernel_rfl
@[simp] theorem by32:I32.bytes=32:=by kernel_rfl
@[simp] theorem ze32:I32.zero=[.snil,.int .i64 0]:=by kernel_rfl
@[simp] theorem za32:I32.zagg=true:=by kernel_rfl
@[simp] theorem ag32:zbk I32.desc=true:=by kernel_rfl
@[simp] theorem st32:zV I32.desc=true:=by kernel_rfl
@[simp] theorem fk32:zav Tryz.prog (fieldsOf I32.desc)=true:=by kernel_rfl
def F32x0:Field:=(zk I32 0).getD default
@[simp] theorem fi32x0:zk I32 0=some F32x0:=by kernel_rfl
@[simp] theorem ft32x0:F32x0.type=26:=by kernel_rfl
@[simp] theorem fo32x0:F32x0.offset=0:=by kernel_rfl
def F32x1:Field:=(zk I32 1).getD default
@[simp] theorem fi32x1:zk I32 1=some F32x1:=by kernel_rfl
@[simp] theorem ft32x1:F32x1.type=3:=by kernel_rfl
@[simp] theorem fo32x1:F32x1.offset=1:=by kernel_rfl
def I34:TI:=(ti Tryz.prog 34).getD ⟨.bool,0,0,[],false⟩
@[simp] theorem ti34:ti Tryz.prog 34=some I34:=by kernel_rfl
@[simp] theorem si34:I34.size=1:=by kernel_rfl
@[simp] theorem by34:I34.bytes=24:=by kernel_rfl
@[simp] theorem ze34:I34.zero=[.snil]:=by kernel_rfl
@[simp] theorem za34:I34.zagg=false:=by kernel_rfl
@[simp] theorem de34:I34.desc=.slice 97:=by kernel_rfl
def I39:TI:=(ti Tryz.prog 39).getD ⟨.bool,0,0,[],false⟩
@[simp] theorem ti39:ti Tryz.prog 39=some I39:=by kernel_rfl
@[simp] theorem si39:I39.size=1:=by kernel_rfl
@[simp] theorem by39:I39.bytes=24:=by kernel_rfl
@[simp] theorem ze39:I39.zero=[.snil]:=by kernel_rfl
@[simp] theorem za39:I39.zagg=false:=by kernel_rfl
@[simp] theorem de39:I39.desc=.slice 41:=by kernel_rfl
def I41:TI:=(ti Tryz.prog 41).getD ⟨.bool,0,0,[],false⟩
@[simp] theorem ti41:ti Tryz.prog 41=some I41:=by kernel_rfl
@[simp] theorem si41:I41.size=5:=by kernel_rfl
@[simp] theorem by41:I41.bytes=64:=by kernel_rfl
@[simp] theorem ze41:I41.zero=[.int .i64 0,.str [],.int .i64 0,.int .i64 0,.snil]:=by kernel_rfl
@[simp] theorem za41:I41.zagg=true:=by kernel_rfl
@[simp] theorem ag41:zbk I41.desc=true:=by kernel_rfl
@[simp] theorem st41:zV I41.desc=true:=by kernel_rfl
@[simp] theorem fk41:zav Tryz.prog (fieldsOf I41.desc)=true:=by kernel_rfl
def F41x0:Field:=(zk I41 0).getD default
@[simp] theorem fi41x0:zk I41 0=some F41x0:=by kernel_rfl
@[simp] theorem ft41x0:F41x0.type=3:=by kernel_rfl
@[simp] theorem fo41x0:F41x0.offset=0:=by kernel_rfl
def F41x1:Field:=(zk I41 1).getD default
@[simp] theorem fi41x1:zk I41 1=some F41x1:=by kernel_rfl
@[simp] theorem ft41x1:F41x1.type=9:=by kernel_rfl
@[simp] theorem fo41x1:F41x1.offset=1:=by kernel_rfl
def F41x2:Field:=(zk I41 2).getD default
@[simp] theorem fi41x2:zk I41 2=some F41x2:=by kernel_rfl
@[simp] theorem ft41x2:F41x2.type=3:=by kernel_rfl
@[simp] theorem fo41x2:F41x2.offset=2:=by kernel_rfl
def F41x3:Field:=(zk I41 3).getD default
@[simp] theorem fi41x3:zk I41 3=some F41x3:=by kernel_rfl
@[simp] theorem ft41x3:F41x3.type=3:=by kernel_rfl
@[simp] theorem fo41x3:F41x3.offset=3:=by kernel_rfl
def F41x4:Field:=(zk I41 4).getD default
@[simp] theorem fi41x4:zk I41 4=some F41x4:=by kernel_rfl
@[simp] theorem ft41x4:F41x4.type=39:=by kernel_rfl
@[simp] theorem fo41x4:F41x4.offset=4:=by kernel_rfl
def I45:TI:=(ti Tryz.prog 45).getD ⟨.bool,0,0,[],false⟩
@[simp] theorem ti45:ti Tryz.prog 45=some I45:=by kernel_rfl
@[simp] theorem si45:I45.size=8:=by kernel_rfl
@[simp] theorem by45:I45.bytes=88:=by kernel_rfl
@[simp] theorem ze45:I45.zero=[.bool false,.int .i64 0,.str [],.int .i64 0,.int .i64 0,.snil,.int .i64 0,.bool false]:=by kernel_rfl
@[simp] theorem za45:I45.zagg=true:=by kernel_rfl
@[simp] theorem ag45:zbk I45.desc=true:=by kernel_rfl
@[simp] theorem st45:zV I45.desc=true:=by kernel_rfl
@[simp] theorem fk45:zav Tryz.prog (fieldsOf I45.desc)=true:=by kernel_rfl
def F45x0:Field:=(zk I45 0).getD default
@[simp] theorem fi45x0:zk I45 0=some F45x0:=by kernel_rfl
@[simp] theorem ft45x0:F45x0.type=4:=by kernel_rfl
@[simp] theorem fo45x0:F45x0.offset=0:=by kernel_rfl
def F45x1:Field:=(zk I45 1).getD default
@[simp] theorem fi45x1:zk I45 1=some F45x1:=by kernel_rfl
@[simp] theorem ft45x1:F45x1.type=41:=by kernel_rfl
@[simp] theorem fo45x1:F45x1.offset=1:=by kernel_rfl
def F45x2:Field:=(zk I45 2).getD default
@[simp] theorem fi45x2:zk I45 2=some F45x2:=by kernel_rfl
@[simp] theorem ft45x2:F45x2.type=3:=by kernel_rfl
@[simp] theorem fo45x2:F45x2.offset=6:=by kernel_rfl
def F45x3:Field:=(zk I45 3).getD default
@[simp] theorem fi45x3:zk I45 3=some F45x3:=by kernel_rfl
@[simp] theorem ft45x3:F45x3.type=4:=by kernel_rfl
@[simp] theorem fo45x3:F45x3.offset=7:=by kernel_rfl
def I49:TI:=(ti Tryz.prog 49).getD ⟨.bool,0,0,[],false⟩
@[simp] theorem ti49:ti Tryz.prog 49=some I49:=by kernel_rfl
@[simp] theorem si49:I49.size=1:=by kernel_rfl
@[simp] theorem by49:I49.bytes=24:=by kernel_rfl
@[simp] theorem ze49:I49.zero=[.snil]:=by kernel_rfl
@[simp] theorem za49:I49.zagg=false:=by kernel_rfl
@[simp] theorem de49:I49.desc=.slice 65:=by kernel_rfl
def I56:TI:=(ti Tryz.prog 56).getD ⟨.bool,0,0,[],false⟩
@[simp] theorem ti56:ti Tryz.prog 56=some I56:=by kernel_rfl
@[simp] theorem si56:I56.size=1:=by kernel_rfl
@[simp] theorem by56:I56.bytes=24:=by kernel_rfl
@[simp] theorem ze56:I56.zero=[.snil]:=by kernel_rfl
@[simp] theorem za56:I56.zagg=false:=by kernel_rfl
@[simp] theorem de56:I56.desc=.slice 122:=by kernel_rfl
def I59:TI:=(ti Tryz.prog 59).getD ⟨.bool,0,0,[],false⟩
@[simp] theorem ti59:ti Tryz.prog 59=some I59:=by kernel_rfl
@[simp] theorem si59:I59.size=1:=by kernel_rfl
@[simp] theorem by59:I59.bytes=8:=by kernel_rfl
@[simp] theorem ze59:I59.zero=[.int .i64 0]:=by kernel_rfl
@[simp] theorem za59:I59.zagg=false:=by kernel_rfl
@[simp] theorem de59:I59.desc=.int .i64:=by kernel_rfl
def I65:TI:=(ti Tryz.prog 65).getD ⟨.bool,0,0,[],false⟩
@[simp] theorem ti65:ti Tryz.prog 65=some I65:=by kernel_rfl
@[simp] theorem si65:I65.size=6:=by kernel_rfl
@[simp] theorem by65:I65.bytes=72:=by kernel_rfl
@[simp] theorem ze65:I65.zero=[.int .i64 0,.int .i64 0,.str [],.int .i64 0,.int .i64 0,.snil]:=by kernel_rfl
@[simp] theorem za65:I65.zagg=true:=by kernel_rfl
@[simp] theorem ag65:zbk I65.desc=true:=by kernel_rfl
@[simp] theorem st65:zV I65.desc=true:=by kernel_rfl
@[simp] theorem fk65:zav Tryz.prog (fieldsOf I65.desc)=true:=by kernel_rfl
def F65x0:Field:=(zk I65 0).getD default
@[simp] theorem fi65x0:zk I65 0=some F65x0:=by kernel_rfl
@[simp] theorem ft65x0:F65x0.type=3:=by kernel_rfl
@[simp] theorem fo65x0:F65x0.offset=0:=by kernel_rfl
def F65x1:Field:=(zk I65 1).getD default
@[simp] theorem fi65x1:zk I65 1=some F65x1:=by kernel_rfl
@[simp] theorem ft65x1:F65x1.type=41:=by kernel_rfl
@[simp] theorem fo65x1:F65x1.offset=1:=by kernel_rfl
def I88:TI:=(ti Tryz.prog 88).getD ⟨.bool,0,0,[],false⟩
@[simp] theorem ti88:ti Tryz.prog 88=some I88:=by kernel_rfl
@[simp] theorem si88:I88.size=10:=by kernel_rfl
@[simp] theorem by88:I88.bytes=104:=by kernel_rfl
@[simp] theorem ze88:I88.zero=[.int .i64 0,.bool false,.int .i64 0,.str [],.int .i64 0,.int .i64 0,.snil,.int .i64 0,.bool false,.bool false]:=by kernel_rfl
@[simp] theorem za88:I88.zagg=true:=by kernel_rfl
@[simp] theorem ag88:zbk I88.desc=true:=by kernel_rfl
@[simp] theorem st88:zV I88.desc=true:=by kernel_rfl
@[simp] theorem fk88:zav Tryz.prog (fieldsOf I88.desc)=true:=by kernel_rfl
def F88x0:Field:=(zk I88 0).getD default
@[simp] theorem fi88x0:zk I88 0=some F88x0:=by kernel_rfl
@[simp] theorem ft88x0:F88x0.type=3:=by kernel_rfl
@[simp] theorem fo88x0:F88x0.offset=0:=by kernel_rfl
def F88x1:Field:=(zk I88 1).getD default
@[simp] theorem fi88x1:zk I88 1=some F88x1:=by kernel_rfl
@[simp] theorem ft88x1:F88x1.type=45:=by kernel_rfl
@[simp] theorem fo88x1:F88x1.offset=1:=by kernel_rfl
def F88x2:Field:=(zk I88 2).getD default
@[simp] theorem fi88x2:zk I88 2=some F88x2:=by kernel_rfl
@[simp] theorem ft88x2:F88x2.type=4:=by kernel_rfl
@[simp] theorem fo88x2:F88x2.offset=9:=by kernel_rfl
def I94:TI:=(ti Tryz.prog 94).getD ⟨.bool,0,0,[],false⟩
@[simp] theorem ti94:ti Tryz.prog 94=some I94:=by kernel_rfl
@[simp] theorem si94:I94.size=1:=by kernel_rfl
@[simp] theorem by94:I94.bytes=24:=by kernel_rfl
@[simp] theorem ze94:I94.zero=[.snil]:=by kernel_rfl
@[simp] theorem za94:I94.zagg=false:=by kernel_rfl
@[simp] theorem de94:I94.desc=.slice 9:=by kernel_rfl
def I95:TI:=(ti Tryz.prog 95).getD ⟨.bool,0,0,[],false⟩
@[simp] theorem ti95:ti Tryz.prog 95=some I95:=by kernel_rfl
@[simp] theorem si95:I95.size=1:=by kernel_rfl
@[simp] theorem by95:I95.bytes=24:=by kernel_rfl
@[simp] theorem ze95:I95.zero=[.snil]:=by kernel_rfl
@[simp] theorem za95:I95.zagg=false:=by kernel_rfl
@[simp] theorem de95:I95.desc=.slice 214:=by kernel_rfl
def I97:TI:=(ti Tryz.prog 97).getD ⟨.bool,0,0,[],false⟩
@[simp] theorem ti97:ti Tryz.prog 97=some I97:=by kernel_rfl
@[simp] theorem si97:I97.size=4:=by kernel_rfl
@[simp] theorem by97:I97.bytes=72:=by kernel_rfl
@[simp] theorem ze97:I97.zero=[.int .i64 0,.str [],.snil,.snil]:=by kernel_rfl
@[simp] theorem za97:I97.zagg=true:=by kernel_rfl
@[simp] theorem ag97:zbk I97.desc=true:=by kernel_rfl
@[simp] theorem st97:zV I97.desc=true:=by kernel_rfl
@[simp] theorem fk97:zav Tryz.prog (fieldsOf I97.desc)=true:=by kernel_rfl
def F97x0:Field:=(zk I97 0).getD default
@[simp] theorem fi97x0:zk I97 0=some F97x0:=by kernel_rfl
@[simp] theorem ft97x0:F97x0.type=3:=by kernel_rfl
@[simp] theorem fo97x0:F97x0.offset=0:=by kernel_rfl
def F97x1:Field:=(zk I97 1).getD default
@[simp] theorem fi97x1:zk I97 1=some F97x1:=by kernel_rfl
@[simp] theorem ft97x1:F97x1.type=9:=by kernel_rfl
@[simp] theorem fo97x1:F97x1.offset=1:=by kernel_rfl
def F97x2:Field:=(zk I97 2).getD default
@[simp] theorem fi97x2:zk I97 2=some F97x2:=by kernel_rfl
@[simp] theorem ft97x2:F97x2.type=94:=by kernel_rfl
@[simp] theorem fo97x2:F97x2.offset=2:=by kernel_rfl
def F97x3:Field:=(zk I97 3).getD default
@[simp] theorem fi97x3:zk I97 3=some F97x3:=by kernel_rfl
@[simp] theorem ft97x3:F97x3.type=95:=by kernel_rfl
@[simp] theorem fo97x3:F97x3.offset=3:=by kernel_rfl
def I98:TI:=(ti Tryz.prog 98).getD ⟨.bool,0,0,[],false⟩
@[simp] theorem ti98:ti Tryz.prog 98=some I98:=by kernel_rfl
@[simp] theorem si98:I98.size=1:=by kernel_rfl
@[simp] theorem by98:I98.bytes=8:=by kernel_rfl
@[simp] theorem ze98:I98.zero=[.int .u64 0]:=by kernel_rfl
@[simp] theorem za98:I98.zagg=false:=by kernel_rfl
@[simp] theorem de98:I98.desc=.int .u64:=by kernel_rfl
def I101:TI:=(ti Tryz.prog 101).getD ⟨.bool,0,0,[],false⟩
@[simp] theorem ti101:ti Tryz.prog 101=some I101:=by kernel_rfl
@[simp] theorem si101:I101.size=1:=by kernel_rfl
@[simp] theorem by101:I101.bytes=8:=by kernel_rfl
@[simp] theorem ze101:I101.zero=[.nilFunc]:=by kernel_rfl
@[simp] theorem za101:I101.zagg=false:=by kernel_rfl
@[simp] theorem ag101:zbk I101.desc=false:=by kernel_rfl
def I111:TI:=(ti Tryz.prog 111).getD ⟨.bool,0,0,[],false⟩
@[simp] theorem ti111:ti Tryz.prog 111=some I111:=by kernel_rfl
@[simp] theorem si111:I111.size=1:=by kernel_rfl
@[simp] theorem by111:I111.bytes=24:=by kernel_rfl
@[simp] theorem ze111:I111.zero=[.snil]:=by kernel_rfl
@[simp] theorem za111:I111.zagg=false:=by kernel_rfl
@[simp] theorem de111:I111.desc=.slice 115:=by kernel_rfl
def I115:TI:=(ti Tryz.prog 115).getD ⟨.bool,0,0,[],false⟩
@[simp] theorem ti115:ti Tryz.prog 115=some I115:=by kernel_rfl
@[simp] theorem si115:I115.size=10:=by kernel_rfl
@[simp] theorem by115:I115.bytes=128:=by kernel_rfl
@[simp] theorem ze115:I115.zero=[.int .i64 0,.str [],.int .i64 0,.int .i64 0,.snil,.int .i64 0,.str [],.int .i64 0,.int .i64 0,.snil]:=by kernel_rfl
@[simp] theorem za115:I115.zagg=true:=by kernel_rfl
@[simp] theorem ag115:zbk I115.desc=true:=by kernel_rfl
@[simp] theorem st115:zV I115.desc=true:=by kernel_rfl
@[simp] theorem fk115:zav Tryz.prog (fieldsOf I115.desc)=true:=by kernel_rfl
def F115x0:Field:=(zk I115 0).getD default
@[simp] theorem fi115x0:zk I115 0=some F115x0:=by kernel_rfl
@[simp] theorem ft115x0:F115x0.type=41:=by kernel_rfl
@[simp] theorem fo115x0:F115x0.offset=0:=by kernel_rfl
def F115x1:Field:=(zk I115 1).getD default
@[simp] theorem fi115x1:zk I115 1=some F115x1:=by kernel_rfl
@[simp] theorem ft115x1:F115x1.type=41:=by kernel_rfl
@[simp] theorem fo115x1:F115x1.offset=5:=by kernel_rfl
def I118:TI:=(ti Tryz.prog 118).getD ⟨.bool,0,0,[],false⟩
@[simp] theorem ti118:ti Tryz.prog 118=some I118:=by kernel_rfl
@[simp] theorem si118:I118.size=2:=by kernel_rfl
@[simp] theorem by118:I118.bytes=48:=by kernel_rfl
@[simp] theorem ze118:I118.zero=[.snil,.snil]:=by kernel_rfl
@[simp] theorem za118:I118.zagg=true:=by kernel_rfl
@[simp] theorem ag118:zbk I118.desc=true:=by kernel_rfl
@[simp] theorem st118:zV I118.desc=true:=by kernel_rfl
@[simp] theorem fk118:zav Tryz.prog (fieldsOf I118.desc)=true:=by kernel_rfl
def F118x0:Field:=(zk I118 0).getD default
@[simp] theorem fi118x0:zk I118 0=some F118x0:=by kernel_rfl
@[simp] theorem ft118x0:F118x0.type=39:=by kernel_rfl
@[simp] theorem fo118x0:F118x0.offset=0:=by kernel_rfl
def F118x1:Field:=(zk I118 1).getD default
@[simp] theorem fi118x1:zk I118 1=some F118x1:=by kernel_rfl
@[simp] theorem ft118x1:F118x1.type=39:=by kernel_rfl
@[simp] theorem fo118x1:F118x1.offset=1:=by kernel_rfl
def I122:TI:=(ti Tryz.prog 122).getD ⟨.bool,0,0,[],false⟩
@[simp] theorem ti122:ti Tryz.prog 122=some I122:=by kernel_rfl
@[simp] theorem si122:I122.size=10:=by kernel_rfl
@[simp] theorem by122:I122.bytes=128:=by kernel_rfl
@[simp] theorem ze122:I122.zero=[.int .i64 0,.str [],.int .i64 0,.int .i64 0,.snil,.int .i64 0,.str [],.int .i64 0,.int .i64 0,.snil]:=by kernel_rfl
@[simp] theorem za122:I122.zagg=true:=by kernel_rfl
@[simp] theorem ag122:zbk I122.desc=true:=by kernel_rfl
@[simp] theorem st122:zV I122.desc=true:=by kernel_rfl
@[simp] theorem fk122:zav Tryz.prog (fieldsOf I122.desc)=true:=by kernel_rfl
def F122x0:Field:=(zk I122 0).getD default
@[simp] theorem fi122x0:zk I122 0=some F122x0:=by kernel_rfl
@[simp] theorem ft122x0:F122x0.type=41:=by kernel_rfl
@[simp] theorem fo122x0:F122x0.offset=0:=by kernel_rfl
def F122x1:Field:=(zk I122 1).getD default
@[simp] theorem fi122x1:zk I122 1=some F122x1:=by kernel_rfl
@[simp] theorem ft122x1:F122x1.type=41:=by kernel_rfl
@[simp] theorem fo122x1:F122x1.offset=5:=by kernel_rfl
def I124:TI:=(ti Tryz.prog 124).getD ⟨.bool,0,0,[],false⟩
@[simp] theorem ti124:ti Tryz.prog 124=some I124:=by kernel_rfl
@[simp] theorem si124:I124.size=1:=by kernel_rfl
@[simp] theorem by124:I124.bytes=8:=by kernel_rfl
@[simp] theorem ze124:I124.zero=[.nilptr]:=by kernel_rfl
@[simp] theorem za124:I124.zagg=false:=by kernel_rfl
@[simp] theorem de124:I124.desc=.pointer 164:=by kernel_rfl
def I162:TI:=(ti Tryz.prog 162).getD ⟨.bool,0,0,[],false⟩
@[simp] theorem ti162:ti Tryz.prog 162=some I162:=by kernel_rfl
@[simp] theorem si162:I162.size=1:=by kernel_rfl
@[simp] theorem by162:I162.bytes=8:=by kernel_rfl
@[simp] theorem ze162:I162.zero=[.nilmap]:=by kernel_rfl
@[simp] theorem za162:I162.zagg=false:=by kernel_rfl
@[simp] theorem de162:I162.desc=.map 3 41:=by kernel_rfl
def I164:TI:=(ti Tryz.prog 164).getD ⟨.bool,0,0,[],false⟩
@[simp] theorem ti164:ti Tryz.prog 164=some I164:=by kernel_rfl
@[simp] theorem si164:I164.size=2:=by kernel_rfl
@[simp] theorem by164:I164.bytes=16:=by kernel_rfl
@[simp] theorem ze164:I164.zero=[.nilmap,.nilmap]:=by kernel_rfl
@[simp] theorem za164:I164.zagg=true:=by kernel_rfl
@[simp] theorem ag164:zbk I164.desc=true:=by kernel_rfl
@[simp] theorem st164:zV I164.desc=true:=by kernel_rfl
@[simp] theorem fk164:zav Tryz.prog (fieldsOf I164.desc)=true:=by kernel_rfl
def F164x0:Field:=(zk I164 0).getD default
@[simp] theorem fi164x0:zk I164 0=some F164x0:=by kernel_rfl
@[simp] theorem ft164x0:F164x0.type=162:=by kernel_rfl
@[simp] theorem fo164x0:F164x0.offset=0:=by kernel_rfl
def F164x1:Field:=(zk I164 1).getD default
@[simp] theorem fi164x1:zk I164 1=some F164x1:=by kernel_rfl
@[simp] theorem ft164x1:F164x1.type=162:=by kernel_rfl
@[simp] theorem fo164x1:F164x1.offset=1:=by kernel_rfl
def I199:TI:=(ti Tryz.prog 199).getD ⟨.bool,0,0,[],false⟩
@[simp] theorem ti199:ti Tryz.prog 199=some I199:=by kernel_rfl
@[simp] theorem si199:I199.size=1:=by kernel_rfl
@[simp] theorem by199:I199.bytes=8:=by kernel_rfl
@[simp] theorem ze199:I199.zero=[.nilmap]:=by kernel_rfl
@[simp] theorem za199:I199.zagg=false:=by kernel_rfl
@[simp] theorem de199:I199.desc=.map 3 4:=by kernel_rfl
def I214:TI:=(ti Tryz.prog 214).getD ⟨.bool,0,0,[],false⟩
@[simp] theorem ti214:ti Tryz.prog 214=some I214:=by kernel_rfl
@[simp] theorem si214:I214.size=3:=by kernel_rfl
@[simp] theorem by214:I214.bytes=48:=by kernel_rfl
@[simp] theorem ze214:I214.zero=[.int .i64 0,.str [],.snil]:=by kernel_rfl
@[simp] theorem za214:I214.zagg=true:=by kernel_rfl
@[simp] theorem ag214:zbk I214.desc=true:=by kernel_rfl
@[simp] theorem st214:zV I214.desc=true:=by kernel_rfl
@[simp] theorem fk214:zav Tryz.prog (fieldsOf I214.desc)=true:=by kernel_rfl
def F214x0:Field:=(zk I214 0).getD default
@[simp] theorem fi214x0:zk I214 0=some F214x0:=by kernel_rfl
@[simp] theorem ft214x0:F214x0.type=3:=by kernel_rfl
@[simp] theorem fo214x0:F214x0.offset=0:=by kernel_rfl
def F214x1:Field:=(zk I214 1).getD default
@[simp] theorem fi214x1:zk I214 1=some F214x1:=by kernel_rfl
@[simp] theorem ft214x1:F214x1.type=9:=by kernel_rfl
@[simp] theorem fo214x1:F214x1.offset=1:=by kernel_rfl
def F214x2:Field:=(zk I214 2).getD default
@[simp] theorem fi214x2:zk I214 2=some F214x2:=by kernel_rfl
@[simp] theorem ft214x2:F214x2.type=39:=by kernel_rfl
@[simp] theorem fo214x2:F214x2.offset=2:=by kernel_rfl
def I222:TI:=(ti Tryz.prog 222).getD ⟨.bool,0,0,[],false⟩
@[simp] theorem ti222:ti Tryz.prog 222=some I222:=by kernel_rfl
@[simp] theorem si222:I222.size=1:=by kernel_rfl
@[simp] theorem by222:I222.bytes=24:=by kernel_rfl
@[simp] theorem ze222:I222.zero=[.snil]:=by kernel_rfl
@[simp] theorem za222:I222.zagg=false:=by kernel_rfl
@[simp] theorem de222:I222.desc=.slice 4:=by kernel_rfl
def I224:TI:=(ti Tryz.prog 224).getD ⟨.bool,0,0,[],false⟩
@[simp] theorem ti224:ti Tryz.prog 224=some I224:=by kernel_rfl
@[simp] theorem si224:I224.size=4:=by kernel_rfl
@[simp] theorem by224:I224.bytes=96:=by kernel_rfl
@[simp] theorem ze224:I224.zero=[.snil,.snil,.snil,.snil]:=by kernel_rfl
@[simp] theorem za224:I224.zagg=true:=by kernel_rfl
@[simp] theorem ag224:zbk I224.desc=true:=by kernel_rfl
@[simp] theorem st224:zV I224.desc=true:=by kernel_rfl
@[simp] theorem fk224:zav Tryz.prog (fieldsOf I224.desc)=true:=by kernel_rfl
def F224x0:Field:=(zk I224 0).getD default
@[simp] theorem fi224x0:zk I224 0=some F224x0:=by kernel_rfl
@[simp] theorem ft224x0:F224x0.type=25:=by kernel_rfl
@[simp] theorem fo224x0:F224x0.offset=0:=by kernel_rfl
def F224x1:Field:=(zk I224 1).getD default
@[simp] theorem fi224x1:zk I224 1=some F224x1:=by kernel_rfl
@[simp] theorem ft224x1:F224x1.type=26:=by kernel_rfl
@[simp] theorem fo224x1:F224x1.offset=2:=by kernel_rfl
def F224x2:Field:=(zk I224 2).getD default
@[simp] theorem fi224x2:zk I224 2=some F224x2:=by kernel_rfl
@[simp] theorem ft224x2:F224x2.type=222:=by kernel_rfl
@[simp] theorem fo224x2:F224x2.offset=3:=by kernel_rfl
end Go.Proofs.YthfcfmkdeheicaaGreat
