import Derived.Test.YtpcmebclpindjaaGreatJH
import Derived.Test.YtpcmebclpindjaaGreatRows
set_option linter.all false
namespace Go.Proofs.YtpcmebclpindjaaGreat
open Go.J
noncomputable def I3 : TI := (ti Tryz.prog 3).getD ⟨.bool, 0, 0, [], false⟩
@[simp] theorem ti3 : ti Tryz.prog 3 = some I3 := by kernel_rfl
@[simp] theorem si3 : I3.size = 1 := by kernel_rfl
@[simp] theorem by3 : I3.bytes = 8 := by kernel_rfl
@[simp] theorem ze3 : I3.zero = [.int .i64 0] := by kernel_rfl
@[simp] theorem za3 : I3.zagg = false := by kernel_rfl
@[simp] theorem de3 : I3.desc = .int .i64 := by kernel_rfl
noncomputable def I4 : TI := (ti Tryz.prog 4).getD ⟨.bool, 0, 0, [], false⟩
@[simp] theorem ti4 : ti Tryz.prog 4 = some I4 := by kernel_rfl
@[simp] theorem si4 : I4.size = 1 := by kernel_rfl
@[simp] theorem by4 : I4.bytes = 1 := by kernel_rfl
@[simp] theorem ze4 : I4.zero = [.bool false] := by kernel_rfl
@[simp] theorem za4 : I4.zagg = false := by kernel_rfl
@[simp] theorem de4 : I4.desc = .bool := by kernel_rfl
noncomputable def I5 : TI := (ti Tryz.prog 5).getD ⟨.bool, 0, 0, [], false⟩
@[simp] theorem ti5 : ti Tryz.prog 5 = some I5 := by kernel_rfl
@[simp] theorem si5 : I5.size = 1 := by kernel_rfl
@[simp] theorem by5 : I5.bytes = 1 := by kernel_rfl
@[simp] theorem ze5 : I5.zero = [.int .u8 0] := by kernel_rfl
@[simp] theorem za5 : I5.zagg = false := by kernel_rfl
@[simp] theorem de5 : I5.desc = .int .u8 := by kernel_rfl
noncomputable def I9 : TI := (ti Tryz.prog 9).getD ⟨.bool, 0, 0, [], false⟩
@[simp] theorem ti9 : ti Tryz.prog 9 = some I9 := by kernel_rfl
@[simp] theorem si9 : I9.size = 1 := by kernel_rfl
@[simp] theorem by9 : I9.bytes = 16 := by kernel_rfl
@[simp] theorem ze9 : I9.zero = [.str []] := by kernel_rfl
@[simp] theorem za9 : I9.zagg = false := by kernel_rfl
@[simp] theorem de9 : I9.desc = .string := by kernel_rfl
noncomputable def I22 : TI := (ti Tryz.prog 22).getD ⟨.bool, 0, 0, [], false⟩
@[simp] theorem ti22 : ti Tryz.prog 22 = some I22 := by kernel_rfl
@[simp] theorem si22 : I22.size = 1 := by kernel_rfl
@[simp] theorem by22 : I22.bytes = 24 := by kernel_rfl
@[simp] theorem ze22 : I22.zero = [.snil] := by kernel_rfl
@[simp] theorem za22 : I22.zagg = false := by kernel_rfl
@[simp] theorem de22 : I22.desc = .slice 3 := by kernel_rfl
noncomputable def I27 : TI := (ti Tryz.prog 27).getD ⟨.bool, 0, 0, [], false⟩
@[simp] theorem ti27 : ti Tryz.prog 27 = some I27 := by kernel_rfl
@[simp] theorem si27 : I27.size = 2 := by kernel_rfl
@[simp] theorem by27 : I27.bytes = 32 := by kernel_rfl
@[simp] theorem ze27 : I27.zero = [.snil, .int .i64 0] := by kernel_rfl
@[simp] theorem za27 : I27.zagg = true := by kernel_rfl
@[simp] theorem ag27 : isAggD I27.desc = true := by kernel_rfl
@[simp] theorem st27 : isStructD I27.desc = true := by kernel_rfl
@[simp] theorem fk27 : fieldsOk Tryz.prog (fieldsOf I27.desc) = true := by kernel_rfl
noncomputable def F27x0 : Field := (fieldOf I27 0).getD default
@[simp] theorem fi27x0 : fieldOf I27 0 = some F27x0 := by kernel_rfl
@[simp] theorem ft27x0 : F27x0.type = 22 := by kernel_rfl
@[simp] theorem fo27x0 : F27x0.offset = 0 := by kernel_rfl
noncomputable def F27x1 : Field := (fieldOf I27 1).getD default
@[simp] theorem fi27x1 : fieldOf I27 1 = some F27x1 := by kernel_rfl
@[simp] theorem ft27x1 : F27x1.type = 3 := by kernel_rfl
@[simp] theorem fo27x1 : F27x1.offset = 1 := by kernel_rfl
noncomputable def I28 : TI := (ti Tryz.prog 28).getD ⟨.bool, 0, 0, [], false⟩
@[simp] theorem ti28 : ti Tryz.prog 28 = some I28 := by kernel_rfl
@[simp] theorem si28 : I28.size = 1 := by kernel_rfl
@[simp] theorem by28 : I28.bytes = 24 := by kernel_rfl
@[simp] theorem ze28 : I28.zero = [.snil] := by kernel_rfl
@[simp] theorem za28 : I28.zagg = false := by kernel_rfl
@[simp] theorem de28 : I28.desc = .slice 30 := by kernel_rfl
noncomputable def I30 : TI := (ti Tryz.prog 30).getD ⟨.bool, 0, 0, [], false⟩
@[simp] theorem ti30 : ti Tryz.prog 30 = some I30 := by kernel_rfl
@[simp] theorem si30 : I30.size = 5 := by kernel_rfl
@[simp] theorem by30 : I30.bytes = 64 := by kernel_rfl
@[simp] theorem ze30 : I30.zero = [.int .i64 0, .str [], .int .i64 0, .int .i64 0, .snil] := by kernel_rfl
@[simp] theorem za30 : I30.zagg = true := by kernel_rfl
@[simp] theorem ag30 : isAggD I30.desc = true := by kernel_rfl
@[simp] theorem st30 : isStructD I30.desc = true := by kernel_rfl
@[simp] theorem fk30 : fieldsOk Tryz.prog (fieldsOf I30.desc) = true := by kernel_rfl
noncomputable def F30x0 : Field := (fieldOf I30 0).getD default
@[simp] theorem fi30x0 : fieldOf I30 0 = some F30x0 := by kernel_rfl
@[simp] theorem ft30x0 : F30x0.type = 3 := by kernel_rfl
@[simp] theorem fo30x0 : F30x0.offset = 0 := by kernel_rfl
noncomputable def F30x1 : Field := (fieldOf I30 1).getD default
@[simp] theorem fi30x1 : fieldOf I30 1 = some F30x1 := by kernel_rfl
@[simp] theorem ft30x1 : F30x1.type = 9 := by kernel_rfl
@[simp] theorem fo30x1 : F30x1.offset = 1 := by kernel_rfl
noncomputable def F30x2 : Field := (fieldOf I30 2).getD default
@[simp] theorem fi30x2 : fieldOf I30 2 = some F30x2 := by kernel_rfl
@[simp] theorem ft30x2 : F30x2.type = 3 := by kernel_rfl
@[simp] theorem fo30x2 : F30x2.offset = 2 := by kernel_rfl
noncomputable def F30x3 : Field := (fieldOf I30 3).getD default
@[simp] theorem fi30x3 : fieldOf I30 3 = some F30x3 := by kernel_rfl
@[simp] theorem ft30x3 : F30x3.type = 3 := by kernel_rfl
@[simp] theorem fo30x3 : F30x3.offset = 3 := by kernel_rfl
noncomputable def F30x4 : Field := (fieldOf I30 4).getD default
@[simp] theorem fi30x4 : fieldOf I30 4 = some F30x4 := by kernel_rfl
@[simp] theorem ft30x4 : F30x4.type = 28 := by kernel_rfl
@[simp] theorem fo30x4 : F30x4.offset = 4 := by kernel_rfl
noncomputable def I32 : TI := (ti Tryz.prog 32).getD ⟨.bool, 0, 0, [], false⟩
@[simp] theorem ti32 : ti Tryz.prog 32 = some I32 := by kernel_rfl
@[simp] theorem si32 : I32.size = 1 := by kernel_rfl
@[simp] theorem by32 : I32.bytes = 24 := by kernel_rfl
@[simp] theorem ze32 : I32.zero = [.snil] := by kernel_rfl
@[simp] theorem za32 : I32.zagg = false := by kernel_rfl
@[simp] theorem de32 : I32.desc = .slice 95 := by kernel_rfl
noncomputable def I38 : TI := (ti Tryz.prog 38).getD ⟨.bool, 0, 0, [], false⟩
@[simp] theorem ti38 : ti Tryz.prog 38 = some I38 := by kernel_rfl
@[simp] theorem si38 : I38.size = 1 := by kernel_rfl
@[simp] theorem by38 : I38.bytes = 24 := by kernel_rfl
@[simp] theorem ze38 : I38.zero = [.snil] := by kernel_rfl
@[simp] theorem za38 : I38.zagg = false := by kernel_rfl
@[simp] theorem de38 : I38.desc = .slice 73 := by kernel_rfl
noncomputable def I40 : TI := (ti Tryz.prog 40).getD ⟨.bool, 0, 0, [], false⟩
@[simp] theorem ti40 : ti Tryz.prog 40 = some I40 := by kernel_rfl
@[simp] theorem si40 : I40.size = 1 := by kernel_rfl
@[simp] theorem by40 : I40.bytes = 24 := by kernel_rfl
@[simp] theorem ze40 : I40.zero = [.snil] := by kernel_rfl
@[simp] theorem za40 : I40.zagg = false := by kernel_rfl
@[simp] theorem de40 : I40.desc = .slice 32 := by kernel_rfl
noncomputable def I41 : TI := (ti Tryz.prog 41).getD ⟨.bool, 0, 0, [], false⟩
@[simp] theorem ti41 : ti Tryz.prog 41 = some I41 := by kernel_rfl
@[simp] theorem si41 : I41.size = 1 := by kernel_rfl
@[simp] theorem by41 : I41.bytes = 24 := by kernel_rfl
@[simp] theorem ze41 : I41.zero = [.snil] := by kernel_rfl
@[simp] theorem za41 : I41.zagg = false := by kernel_rfl
@[simp] theorem de41 : I41.desc = .slice 9 := by kernel_rfl
noncomputable def I50 : TI := (ti Tryz.prog 50).getD ⟨.bool, 0, 0, [], false⟩
@[simp] theorem ti50 : ti Tryz.prog 50 = some I50 := by kernel_rfl
@[simp] theorem si50 : I50.size = 1 := by kernel_rfl
@[simp] theorem by50 : I50.bytes = 24 := by kernel_rfl
@[simp] theorem ze50 : I50.zero = [.snil] := by kernel_rfl
@[simp] theorem za50 : I50.zagg = false := by kernel_rfl
@[simp] theorem de50 : I50.desc = .slice 57 := by kernel_rfl
noncomputable def I57 : TI := (ti Tryz.prog 57).getD ⟨.bool, 0, 0, [], false⟩
@[simp] theorem ti57 : ti Tryz.prog 57 = some I57 := by kernel_rfl
@[simp] theorem si57 : I57.size = 4 := by kernel_rfl
@[simp] theorem by57 : I57.bytes = 72 := by kernel_rfl
@[simp] theorem ze57 : I57.zero = [.str [], .bool false, .snil, .snil] := by kernel_rfl
@[simp] theorem za57 : I57.zagg = true := by kernel_rfl
@[simp] theorem ag57 : isAggD I57.desc = true := by kernel_rfl
@[simp] theorem st57 : isStructD I57.desc = true := by kernel_rfl
@[simp] theorem fk57 : fieldsOk Tryz.prog (fieldsOf I57.desc) = true := by kernel_rfl
noncomputable def F57x0 : Field := (fieldOf I57 0).getD default
@[simp] theorem fi57x0 : fieldOf I57 0 = some F57x0 := by kernel_rfl
@[simp] theorem ft57x0 : F57x0.type = 9 := by kernel_rfl
@[simp] theorem fo57x0 : F57x0.offset = 0 := by kernel_rfl
noncomputable def F57x1 : Field := (fieldOf I57 1).getD default
@[simp] theorem fi57x1 : fieldOf I57 1 = some F57x1 := by kernel_rfl
@[simp] theorem ft57x1 : F57x1.type = 4 := by kernel_rfl
@[simp] theorem fo57x1 : F57x1.offset = 1 := by kernel_rfl
noncomputable def F57x2 : Field := (fieldOf I57 2).getD default
@[simp] theorem fi57x2 : fieldOf I57 2 = some F57x2 := by kernel_rfl
@[simp] theorem ft57x2 : F57x2.type = 28 := by kernel_rfl
@[simp] theorem fo57x2 : F57x2.offset = 2 := by kernel_rfl
noncomputable def F57x3 : Field := (fieldOf I57 3).getD default
@[simp] theorem fi57x3 : fieldOf I57 3 = some F57x3 := by kernel_rfl
@[simp] theorem ft57x3 : F57x3.type = 28 := by kernel_rfl
@[simp] theorem fo57x3 : F57x3.offset = 3 := by kernel_rfl
noncomputable def I58 : TI := (ti Tryz.prog 58).getD ⟨.bool, 0, 0, [], false⟩
@[simp] theorem ti58 : ti Tryz.prog 58 = some I58 := by kernel_rfl
@[simp] theorem si58 : I58.size = 1 := by kernel_rfl
@[simp] theorem by58 : I58.bytes = 24 := by kernel_rfl
@[simp] theorem ze58 : I58.zero = [.snil] := by kernel_rfl
@[simp] theorem za58 : I58.zagg = false := by kernel_rfl
@[simp] theorem de58 : I58.desc = .slice 62 := by kernel_rfl
noncomputable def I60 : TI := (ti Tryz.prog 60).getD ⟨.bool, 0, 0, [], false⟩
@[simp] theorem ti60 : ti Tryz.prog 60 = some I60 := by kernel_rfl
@[simp] theorem si60 : I60.size = 1 := by kernel_rfl
@[simp] theorem by60 : I60.bytes = 24 := by kernel_rfl
@[simp] theorem ze60 : I60.zero = [.snil] := by kernel_rfl
@[simp] theorem za60 : I60.zagg = false := by kernel_rfl
@[simp] theorem de60 : I60.desc = .slice 137 := by kernel_rfl
noncomputable def I62 : TI := (ti Tryz.prog 62).getD ⟨.bool, 0, 0, [], false⟩
@[simp] theorem ti62 : ti Tryz.prog 62 = some I62 := by kernel_rfl
@[simp] theorem si62 : I62.size = 11 := by kernel_rfl
@[simp] theorem by62 : I62.bytes = 152 := by kernel_rfl
@[simp] theorem ze62 : I62.zero = [.int .i64 0, .int .i64 0, .str [], .int .i64 0, .snil, .snil, .int .i64 0, .str [], .int .i64 0, .int .i64 0, .snil] := by kernel_rfl
@[simp] theorem za62 : I62.zagg = true := by kernel_rfl
@[simp] theorem ag62 : isAggD I62.desc = true := by kernel_rfl
@[simp] theorem st62 : isStructD I62.desc = true := by kernel_rfl
@[simp] theorem fk62 : fieldsOk Tryz.prog (fieldsOf I62.desc) = true := by kernel_rfl
noncomputable def F62x0 : Field := (fieldOf I62 0).getD default
@[simp] theorem fi62x0 : fieldOf I62 0 = some F62x0 := by kernel_rfl
@[simp] theorem ft62x0 : F62x0.type = 3 := by kernel_rfl
@[simp] theorem fo62x0 : F62x0.offset = 0 := by kernel_rfl
noncomputable def F62x1 : Field := (fieldOf I62 1).getD default
@[simp] theorem fi62x1 : fieldOf I62 1 = some F62x1 := by kernel_rfl
@[simp] theorem ft62x1 : F62x1.type = 3 := by kernel_rfl
@[simp] theorem fo62x1 : F62x1.offset = 1 := by kernel_rfl
noncomputable def F62x2 : Field := (fieldOf I62 2).getD default
@[simp] theorem fi62x2 : fieldOf I62 2 = some F62x2 := by kernel_rfl
@[simp] theorem ft62x2 : F62x2.type = 9 := by kernel_rfl
@[simp] theorem fo62x2 : F62x2.offset = 2 := by kernel_rfl
noncomputable def F62x3 : Field := (fieldOf I62 3).getD default
@[simp] theorem fi62x3 : fieldOf I62 3 = some F62x3 := by kernel_rfl
@[simp] theorem ft62x3 : F62x3.type = 3 := by kernel_rfl
@[simp] theorem fo62x3 : F62x3.offset = 3 := by kernel_rfl
noncomputable def F62x4 : Field := (fieldOf I62 4).getD default
@[simp] theorem fi62x4 : fieldOf I62 4 = some F62x4 := by kernel_rfl
@[simp] theorem ft62x4 : F62x4.type = 58 := by kernel_rfl
@[simp] theorem fo62x4 : F62x4.offset = 4 := by kernel_rfl
noncomputable def F62x5 : Field := (fieldOf I62 5).getD default
@[simp] theorem fi62x5 : fieldOf I62 5 = some F62x5 := by kernel_rfl
@[simp] theorem ft62x5 : F62x5.type = 60 := by kernel_rfl
@[simp] theorem fo62x5 : F62x5.offset = 5 := by kernel_rfl
noncomputable def F62x6 : Field := (fieldOf I62 6).getD default
@[simp] theorem fi62x6 : fieldOf I62 6 = some F62x6 := by kernel_rfl
@[simp] theorem ft62x6 : F62x6.type = 30 := by kernel_rfl
@[simp] theorem fo62x6 : F62x6.offset = 6 := by kernel_rfl
noncomputable def I71 : TI := (ti Tryz.prog 71).getD ⟨.bool, 0, 0, [], false⟩
@[simp] theorem ti71 : ti Tryz.prog 71 = some I71 := by kernel_rfl
@[simp] theorem si71 : I71.size = 6 := by kernel_rfl
@[simp] theorem by71 : I71.bytes = 72 := by kernel_rfl
@[simp] theorem ze71 : I71.zero = [.int .i64 0, .int .i64 0, .str [], .int .i64 0, .int .i64 0, .snil] := by kernel_rfl
@[simp] theorem za71 : I71.zagg = true := by kernel_rfl
@[simp] theorem ag71 : isAggD I71.desc = true := by kernel_rfl
@[simp] theorem st71 : isStructD I71.desc = true := by kernel_rfl
@[simp] theorem fk71 : fieldsOk Tryz.prog (fieldsOf I71.desc) = true := by kernel_rfl
noncomputable def F71x0 : Field := (fieldOf I71 0).getD default
@[simp] theorem fi71x0 : fieldOf I71 0 = some F71x0 := by kernel_rfl
@[simp] theorem ft71x0 : F71x0.type = 3 := by kernel_rfl
@[simp] theorem fo71x0 : F71x0.offset = 0 := by kernel_rfl
noncomputable def F71x1 : Field := (fieldOf I71 1).getD default
@[simp] theorem fi71x1 : fieldOf I71 1 = some F71x1 := by kernel_rfl
@[simp] theorem ft71x1 : F71x1.type = 30 := by kernel_rfl
@[simp] theorem fo71x1 : F71x1.offset = 1 := by kernel_rfl
noncomputable def I73 : TI := (ti Tryz.prog 73).getD ⟨.bool, 0, 0, [], false⟩
@[simp] theorem ti73 : ti Tryz.prog 73 = some I73 := by kernel_rfl
@[simp] theorem si73 : I73.size = 7 := by kernel_rfl
@[simp] theorem by73 : I73.bytes = 88 := by kernel_rfl
@[simp] theorem ze73 : I73.zero = [.str [], .int .i64 0, .int .i64 0, .str [], .int .i64 0, .int .i64 0, .snil] := by kernel_rfl
@[simp] theorem za73 : I73.zagg = true := by kernel_rfl
@[simp] theorem ag73 : isAggD I73.desc = true := by kernel_rfl
@[simp] theorem st73 : isStructD I73.desc = true := by kernel_rfl
@[simp] theorem fk73 : fieldsOk Tryz.prog (fieldsOf I73.desc) = true := by kernel_rfl
noncomputable def F73x0 : Field := (fieldOf I73 0).getD default
@[simp] theorem fi73x0 : fieldOf I73 0 = some F73x0 := by kernel_rfl
@[simp] theorem ft73x0 : F73x0.type = 9 := by kernel_rfl
@[simp] theorem fo73x0 : F73x0.offset = 0 := by kernel_rfl
noncomputable def F73x1 : Field := (fieldOf I73 1).getD default
@[simp] theorem fi73x1 : fieldOf I73 1 = some F73x1 := by kernel_rfl
@[simp] theorem ft73x1 : F73x1.type = 71 := by kernel_rfl
@[simp] theorem fo73x1 : F73x1.offset = 1 := by kernel_rfl
noncomputable def I78 : TI := (ti Tryz.prog 78).getD ⟨.bool, 0, 0, [], false⟩
@[simp] theorem ti78 : ti Tryz.prog 78 = some I78 := by kernel_rfl
@[simp] theorem si78 : I78.size = 1 := by kernel_rfl
@[simp] theorem by78 : I78.bytes = 8 := by kernel_rfl
@[simp] theorem ze78 : I78.zero = [.int .i64 0] := by kernel_rfl
@[simp] theorem za78 : I78.zagg = false := by kernel_rfl
@[simp] theorem de78 : I78.desc = .int .i64 := by kernel_rfl
noncomputable def I80 : TI := (ti Tryz.prog 80).getD ⟨.bool, 0, 0, [], false⟩
@[simp] theorem ti80 : ti Tryz.prog 80 = some I80 := by kernel_rfl
@[simp] theorem si80 : I80.size = 1 := by kernel_rfl
@[simp] theorem by80 : I80.bytes = 24 := by kernel_rfl
@[simp] theorem ze80 : I80.zero = [.snil] := by kernel_rfl
@[simp] theorem za80 : I80.zagg = false := by kernel_rfl
@[simp] theorem de80 : I80.desc = .slice 101 := by kernel_rfl
noncomputable def I83 : TI := (ti Tryz.prog 83).getD ⟨.bool, 0, 0, [], false⟩
@[simp] theorem ti83 : ti Tryz.prog 83 = some I83 := by kernel_rfl
@[simp] theorem si83 : I83.size = 2 := by kernel_rfl
@[simp] theorem by83 : I83.bytes = 16 := by kernel_rfl
@[simp] theorem ze83 : I83.zero = [.int .i64 0, .int .i64 0] := by kernel_rfl
@[simp] theorem za83 : I83.zagg = true := by kernel_rfl
@[simp] theorem ag83 : isAggD I83.desc = true := by kernel_rfl
@[simp] theorem st83 : isStructD I83.desc = true := by kernel_rfl
@[simp] theorem fk83 : fieldsOk Tryz.prog (fieldsOf I83.desc) = true := by kernel_rfl
noncomputable def F83x0 : Field := (fieldOf I83 0).getD default
@[simp] theorem fi83x0 : fieldOf I83 0 = some F83x0 := by kernel_rfl
@[simp] theorem ft83x0 : F83x0.type = 78 := by kernel_rfl
@[simp] theorem fo83x0 : F83x0.offset = 0 := by kernel_rfl
noncomputable def F83x1 : Field := (fieldOf I83 1).getD default
@[simp] theorem fi83x1 : fieldOf I83 1 = some F83x1 := by kernel_rfl
@[simp] theorem ft83x1 : F83x1.type = 3 := by kernel_rfl
@[simp] theorem fo83x1 : F83x1.offset = 1 := by kernel_rfl
noncomputable def I93 : TI := (ti Tryz.prog 93).getD ⟨.bool, 0, 0, [], false⟩
@[simp] theorem ti93 : ti Tryz.prog 93 = some I93 := by kernel_rfl
@[simp] theorem si93 : I93.size = 1 := by kernel_rfl
@[simp] theorem by93 : I93.bytes = 24 := by kernel_rfl
@[simp] theorem ze93 : I93.zero = [.snil] := by kernel_rfl
@[simp] theorem za93 : I93.zagg = false := by kernel_rfl
@[simp] theorem de93 : I93.desc = .slice 116 := by kernel_rfl
noncomputable def I95 : TI := (ti Tryz.prog 95).getD ⟨.bool, 0, 0, [], false⟩
@[simp] theorem ti95 : ti Tryz.prog 95 = some I95 := by kernel_rfl
@[simp] theorem si95 : I95.size = 4 := by kernel_rfl
@[simp] theorem by95 : I95.bytes = 72 := by kernel_rfl
@[simp] theorem ze95 : I95.zero = [.int .i64 0, .str [], .snil, .snil] := by kernel_rfl
@[simp] theorem za95 : I95.zagg = true := by kernel_rfl
@[simp] theorem ag95 : isAggD I95.desc = true := by kernel_rfl
@[simp] theorem st95 : isStructD I95.desc = true := by kernel_rfl
@[simp] theorem fk95 : fieldsOk Tryz.prog (fieldsOf I95.desc) = true := by kernel_rfl
noncomputable def F95x0 : Field := (fieldOf I95 0).getD default
@[simp] theorem fi95x0 : fieldOf I95 0 = some F95x0 := by kernel_rfl
@[simp] theorem ft95x0 : F95x0.type = 3 := by kernel_rfl
@[simp] theorem fo95x0 : F95x0.offset = 0 := by kernel_rfl
noncomputable def F95x1 : Field := (fieldOf I95 1).getD default
@[simp] theorem fi95x1 : fieldOf I95 1 = some F95x1 := by kernel_rfl
@[simp] theorem ft95x1 : F95x1.type = 9 := by kernel_rfl
@[simp] theorem fo95x1 : F95x1.offset = 1 := by kernel_rfl
noncomputable def F95x2 : Field := (fieldOf I95 2).getD default
@[simp] theorem fi95x2 : fieldOf I95 2 = some F95x2 := by kernel_rfl
@[simp] theorem ft95x2 : F95x2.type = 41 := by kernel_rfl
@[simp] theorem fo95x2 : F95x2.offset = 2 := by kernel_rfl
noncomputable def F95x3 : Field := (fieldOf I95 3).getD default
@[simp] theorem fi95x3 : fieldOf I95 3 = some F95x3 := by kernel_rfl
@[simp] theorem ft95x3 : F95x3.type = 93 := by kernel_rfl
@[simp] theorem fo95x3 : F95x3.offset = 3 := by kernel_rfl
noncomputable def I98 : TI := (ti Tryz.prog 98).getD ⟨.bool, 0, 0, [], false⟩
@[simp] theorem ti98 : ti Tryz.prog 98 = some I98 := by kernel_rfl
@[simp] theorem si98 : I98.size = 1 := by kernel_rfl
@[simp] theorem by98 : I98.bytes = 8 := by kernel_rfl
@[simp] theorem ze98 : I98.zero = [.int .u64 0] := by kernel_rfl
@[simp] theorem za98 : I98.zagg = false := by kernel_rfl
@[simp] theorem de98 : I98.desc = .int .u64 := by kernel_rfl
noncomputable def I101 : TI := (ti Tryz.prog 101).getD ⟨.bool, 0, 0, [], false⟩
@[simp] theorem ti101 : ti Tryz.prog 101 = some I101 := by kernel_rfl
@[simp] theorem si101 : I101.size = 6 := by kernel_rfl
@[simp] theorem by101 : I101.bytes = 72 := by kernel_rfl
@[simp] theorem ze101 : I101.zero = [.int .i64 0, .int .i64 0, .str [], .int .i64 0, .int .i64 0, .snil] := by kernel_rfl
@[simp] theorem za101 : I101.zagg = true := by kernel_rfl
@[simp] theorem ag101 : isAggD I101.desc = true := by kernel_rfl
@[simp] theorem st101 : isStructD I101.desc = true := by kernel_rfl
@[simp] theorem fk101 : fieldsOk Tryz.prog (fieldsOf I101.desc) = true := by kernel_rfl
noncomputable def F101x0 : Field := (fieldOf I101 0).getD default
@[simp] theorem fi101x0 : fieldOf I101 0 = some F101x0 := by kernel_rfl
@[simp] theorem ft101x0 : F101x0.type = 3 := by kernel_rfl
@[simp] theorem fo101x0 : F101x0.offset = 0 := by kernel_rfl
noncomputable def F101x1 : Field := (fieldOf I101 1).getD default
@[simp] theorem fi101x1 : fieldOf I101 1 = some F101x1 := by kernel_rfl
@[simp] theorem ft101x1 : F101x1.type = 30 := by kernel_rfl
@[simp] theorem fo101x1 : F101x1.offset = 1 := by kernel_rfl
noncomputable def I110 : TI := (ti Tryz.prog 110).getD ⟨.bool, 0, 0, [], false⟩
@[simp] theorem ti110 : ti Tryz.prog 110 = some I110 := by kernel_rfl
@[simp] theorem si110 : I110.size = 1 := by kernel_rfl
@[simp] theorem by110 : I110.bytes = 8 := by kernel_rfl
@[simp] theorem ze110 : I110.zero = [.nilptr] := by kernel_rfl
@[simp] theorem za110 : I110.zagg = false := by kernel_rfl
@[simp] theorem de110 : I110.desc = .pointer 187 := by kernel_rfl
noncomputable def I116 : TI := (ti Tryz.prog 116).getD ⟨.bool, 0, 0, [], false⟩
@[simp] theorem ti116 : ti Tryz.prog 116 = some I116 := by kernel_rfl
@[simp] theorem si116 : I116.size = 3 := by kernel_rfl
@[simp] theorem by116 : I116.bytes = 48 := by kernel_rfl
@[simp] theorem ze116 : I116.zero = [.int .i64 0, .str [], .snil] := by kernel_rfl
@[simp] theorem za116 : I116.zagg = true := by kernel_rfl
@[simp] theorem ag116 : isAggD I116.desc = true := by kernel_rfl
@[simp] theorem st116 : isStructD I116.desc = true := by kernel_rfl
@[simp] theorem fk116 : fieldsOk Tryz.prog (fieldsOf I116.desc) = true := by kernel_rfl
noncomputable def F116x0 : Field := (fieldOf I116 0).getD default
@[simp] theorem fi116x0 : fieldOf I116 0 = some F116x0 := by kernel_rfl
@[simp] theorem ft116x0 : F116x0.type = 3 := by kernel_rfl
@[simp] theorem fo116x0 : F116x0.offset = 0 := by kernel_rfl
noncomputable def F116x1 : Field := (fieldOf I116 1).getD default
@[simp] theorem fi116x1 : fieldOf I116 1 = some F116x1 := by kernel_rfl
@[simp] theorem ft116x1 : F116x1.type = 9 := by kernel_rfl
@[simp] theorem fo116x1 : F116x1.offset = 1 := by kernel_rfl
noncomputable def F116x2 : Field := (fieldOf I116 2).getD default
@[simp] theorem fi116x2 : fieldOf I116 2 = some F116x2 := by kernel_rfl
@[simp] theorem ft116x2 : F116x2.type = 28 := by kernel_rfl
@[simp] theorem fo116x2 : F116x2.offset = 2 := by kernel_rfl
noncomputable def I119 : TI := (ti Tryz.prog 119).getD ⟨.bool, 0, 0, [], false⟩
@[simp] theorem ti119 : ti Tryz.prog 119 = some I119 := by kernel_rfl
@[simp] theorem si119 : I119.size = 1 := by kernel_rfl
@[simp] theorem by119 : I119.bytes = 24 := by kernel_rfl
@[simp] theorem ze119 : I119.zero = [.snil] := by kernel_rfl
@[simp] theorem za119 : I119.zagg = false := by kernel_rfl
@[simp] theorem de119 : I119.desc = .slice 272 := by kernel_rfl
noncomputable def I120 : TI := (ti Tryz.prog 120).getD ⟨.bool, 0, 0, [], false⟩
@[simp] theorem ti120 : ti Tryz.prog 120 = some I120 := by kernel_rfl
@[simp] theorem si120 : I120.size = 1 := by kernel_rfl
@[simp] theorem by120 : I120.bytes = 24 := by kernel_rfl
@[simp] theorem ze120 : I120.zero = [.snil] := by kernel_rfl
@[simp] theorem za120 : I120.zagg = false := by kernel_rfl
@[simp] theorem de120 : I120.desc = .slice 274 := by kernel_rfl
noncomputable def I122 : TI := (ti Tryz.prog 122).getD ⟨.bool, 0, 0, [], false⟩
@[simp] theorem ti122 : ti Tryz.prog 122 = some I122 := by kernel_rfl
@[simp] theorem si122 : I122.size = 2 := by kernel_rfl
@[simp] theorem by122 : I122.bytes = 48 := by kernel_rfl
@[simp] theorem ze122 : I122.zero = [.snil, .snil] := by kernel_rfl
@[simp] theorem za122 : I122.zagg = true := by kernel_rfl
@[simp] theorem ag122 : isAggD I122.desc = true := by kernel_rfl
@[simp] theorem st122 : isStructD I122.desc = true := by kernel_rfl
@[simp] theorem fk122 : fieldsOk Tryz.prog (fieldsOf I122.desc) = true := by kernel_rfl
noncomputable def F122x0 : Field := (fieldOf I122 0).getD default
@[simp] theorem fi122x0 : fieldOf I122 0 = some F122x0 := by kernel_rfl
@[simp] theorem ft122x0 : F122x0.type = 119 := by kernel_rfl
@[simp] theorem fo122x0 : F122x0.offset = 0 := by kernel_rfl
noncomputable def F122x1 : Field := (fieldOf I122 1).getD default
@[simp] theorem fi122x1 : fieldOf I122 1 = some F122x1 := by kernel_rfl
@[simp] theorem ft122x1 : F122x1.type = 120 := by kernel_rfl
@[simp] theorem fo122x1 : F122x1.offset = 1 := by kernel_rfl
noncomputable def I137 : TI := (ti Tryz.prog 137).getD ⟨.bool, 0, 0, [], false⟩
@[simp] theorem ti137 : ti Tryz.prog 137 = some I137 := by kernel_rfl
@[simp] theorem si137 : I137.size = 14 := by kernel_rfl
@[simp] theorem by137 : I137.bytes = 200 := by kernel_rfl
@[simp] theorem ze137 : I137.zero = [.int .i64 0, .str [], .snil, .int .i64 0, .int .i64 0, .str [], .int .i64 0, .snil, .snil, .int .i64 0, .str [], .int .i64 0, .int .i64 0, .snil] := by kernel_rfl
@[simp] theorem za137 : I137.zagg = true := by kernel_rfl
@[simp] theorem ag137 : isAggD I137.desc = true := by kernel_rfl
@[simp] theorem st137 : isStructD I137.desc = true := by kernel_rfl
@[simp] theorem fk137 : fieldsOk Tryz.prog (fieldsOf I137.desc) = true := by kernel_rfl
noncomputable def F137x0 : Field := (fieldOf I137 0).getD default
@[simp] theorem fi137x0 : fieldOf I137 0 = some F137x0 := by kernel_rfl
@[simp] theorem ft137x0 : F137x0.type = 3 := by kernel_rfl
@[simp] theorem fo137x0 : F137x0.offset = 0 := by kernel_rfl
noncomputable def F137x1 : Field := (fieldOf I137 1).getD default
@[simp] theorem fi137x1 : fieldOf I137 1 = some F137x1 := by kernel_rfl
@[simp] theorem ft137x1 : F137x1.type = 9 := by kernel_rfl
@[simp] theorem fo137x1 : F137x1.offset = 1 := by kernel_rfl
noncomputable def F137x2 : Field := (fieldOf I137 2).getD default
@[simp] theorem fi137x2 : fieldOf I137 2 = some F137x2 := by kernel_rfl
@[simp] theorem ft137x2 : F137x2.type = 41 := by kernel_rfl
@[simp] theorem fo137x2 : F137x2.offset = 2 := by kernel_rfl
noncomputable def F137x3 : Field := (fieldOf I137 3).getD default
@[simp] theorem fi137x3 : fieldOf I137 3 = some F137x3 := by kernel_rfl
@[simp] theorem ft137x3 : F137x3.type = 62 := by kernel_rfl
@[simp] theorem fo137x3 : F137x3.offset = 3 := by kernel_rfl
noncomputable def I149 : TI := (ti Tryz.prog 149).getD ⟨.bool, 0, 0, [], false⟩
@[simp] theorem ti149 : ti Tryz.prog 149 = some I149 := by kernel_rfl
@[simp] theorem si149 : I149.size = 1 := by kernel_rfl
@[simp] theorem by149 : I149.bytes = 8 := by kernel_rfl
@[simp] theorem ze149 : I149.zero = [.nilptr] := by kernel_rfl
@[simp] theorem za149 : I149.zagg = false := by kernel_rfl
@[simp] theorem de149 : I149.desc = .pointer 151 := by kernel_rfl
noncomputable def I151 : TI := (ti Tryz.prog 151).getD ⟨.bool, 0, 0, [], false⟩
@[simp] theorem ti151 : ti Tryz.prog 151 = some I151 := by kernel_rfl
@[simp] theorem si151 : I151.size = 4 := by kernel_rfl
@[simp] theorem by151 : I151.bytes = 96 := by kernel_rfl
@[simp] theorem ze151 : I151.zero = [.snil, .snil, .snil, .snil] := by kernel_rfl
@[simp] theorem za151 : I151.zagg = true := by kernel_rfl
@[simp] theorem ag151 : isAggD I151.desc = true := by kernel_rfl
@[simp] theorem st151 : isStructD I151.desc = true := by kernel_rfl
@[simp] theorem fk151 : fieldsOk Tryz.prog (fieldsOf I151.desc) = true := by kernel_rfl
noncomputable def F151x0 : Field := (fieldOf I151 0).getD default
@[simp] theorem fi151x0 : fieldOf I151 0 = some F151x0 := by kernel_rfl
@[simp] theorem ft151x0 : F151x0.type = 32 := by kernel_rfl
@[simp] theorem fo151x0 : F151x0.offset = 0 := by kernel_rfl
noncomputable def F151x1 : Field := (fieldOf I151 1).getD default
@[simp] theorem fi151x1 : fieldOf I151 1 = some F151x1 := by kernel_rfl
@[simp] theorem ft151x1 : F151x1.type = 122 := by kernel_rfl
@[simp] theorem fo151x1 : F151x1.offset = 1 := by kernel_rfl
noncomputable def F151x2 : Field := (fieldOf I151 2).getD default
@[simp] theorem fi151x2 : fieldOf I151 2 = some F151x2 := by kernel_rfl
@[simp] theorem ft151x2 : F151x2.type = 28 := by kernel_rfl
@[simp] theorem fo151x2 : F151x2.offset = 3 := by kernel_rfl
noncomputable def I160 : TI := (ti Tryz.prog 160).getD ⟨.bool, 0, 0, [], false⟩
@[simp] theorem ti160 : ti Tryz.prog 160 = some I160 := by kernel_rfl
@[simp] theorem si160 : I160.size = 1 := by kernel_rfl
@[simp] theorem by160 : I160.bytes = 24 := by kernel_rfl
@[simp] theorem ze160 : I160.zero = [.snil] := by kernel_rfl
@[simp] theorem za160 : I160.zagg = false := by kernel_rfl
@[simp] theorem de160 : I160.desc = .slice 4 := by kernel_rfl
noncomputable def I174 : TI := (ti Tryz.prog 174).getD ⟨.bool, 0, 0, [], false⟩
@[simp] theorem ti174 : ti Tryz.prog 174 = some I174 := by kernel_rfl
@[simp] theorem si174 : I174.size = 1 := by kernel_rfl
@[simp] theorem by174 : I174.bytes = 24 := by kernel_rfl
@[simp] theorem ze174 : I174.zero = [.snil] := by kernel_rfl
@[simp] theorem za174 : I174.zagg = false := by kernel_rfl
@[simp] theorem de174 : I174.desc = .slice 265 := by kernel_rfl
noncomputable def I176 : TI := (ti Tryz.prog 176).getD ⟨.bool, 0, 0, [], false⟩
@[simp] theorem ti176 : ti Tryz.prog 176 = some I176 := by kernel_rfl
@[simp] theorem si176 : I176.size = 2 := by kernel_rfl
@[simp] theorem by176 : I176.bytes = 48 := by kernel_rfl
@[simp] theorem ze176 : I176.zero = [.snil, .snil] := by kernel_rfl
@[simp] theorem za176 : I176.zagg = true := by kernel_rfl
@[simp] theorem ag176 : isAggD I176.desc = true := by kernel_rfl
@[simp] theorem st176 : isStructD I176.desc = true := by kernel_rfl
@[simp] theorem fk176 : fieldsOk Tryz.prog (fieldsOf I176.desc) = true := by kernel_rfl
noncomputable def F176x0 : Field := (fieldOf I176 0).getD default
@[simp] theorem fi176x0 : fieldOf I176 0 = some F176x0 := by kernel_rfl
@[simp] theorem ft176x0 : F176x0.type = 32 := by kernel_rfl
@[simp] theorem fo176x0 : F176x0.offset = 0 := by kernel_rfl
noncomputable def F176x1 : Field := (fieldOf I176 1).getD default
@[simp] theorem fi176x1 : fieldOf I176 1 = some F176x1 := by kernel_rfl
@[simp] theorem ft176x1 : F176x1.type = 174 := by kernel_rfl
@[simp] theorem fo176x1 : F176x1.offset = 1 := by kernel_rfl
noncomputable def I181 : TI := (ti Tryz.prog 181).getD ⟨.bool, 0, 0, [], false⟩
@[simp] theorem ti181 : ti Tryz.prog 181 = some I181 := by kernel_rfl
@[simp] theorem si181 : I181.size = 1 := by kernel_rfl
@[simp] theorem by181 : I181.bytes = 8 := by kernel_rfl
@[simp] theorem ze181 : I181.zero = [.nilFunc] := by kernel_rfl
@[simp] theorem za181 : I181.zagg = false := by kernel_rfl
@[simp] theorem ag181 : isAggD I181.desc = false := by kernel_rfl
noncomputable def I187 : TI := (ti Tryz.prog 187).getD ⟨.bool, 0, 0, [], false⟩
@[simp] theorem ti187 : ti Tryz.prog 187 = some I187 := by kernel_rfl
@[simp] theorem si187 : I187.size = 11 := by kernel_rfl
@[simp] theorem by187 : I187.bytes = 208 := by kernel_rfl
@[simp] theorem ze187 : I187.zero = [.snil, .snil, .snil, .snil, .snil, .snil, .int .i64 0, .str [], .int .i64 0, .int .i64 0, .snil] := by kernel_rfl
@[simp] theorem za187 : I187.zagg = true := by kernel_rfl
@[simp] theorem ag187 : isAggD I187.desc = true := by kernel_rfl
@[simp] theorem st187 : isStructD I187.desc = true := by kernel_rfl
@[simp] theorem fk187 : fieldsOk Tryz.prog (fieldsOf I187.desc) = true := by kernel_rfl
noncomputable def F187x0 : Field := (fieldOf I187 0).getD default
@[simp] theorem fi187x0 : fieldOf I187 0 = some F187x0 := by kernel_rfl
@[simp] theorem ft187x0 : F187x0.type = 151 := by kernel_rfl
@[simp] theorem fo187x0 : F187x0.offset = 0 := by kernel_rfl
noncomputable def F187x1 : Field := (fieldOf I187 1).getD default
@[simp] theorem fi187x1 : fieldOf I187 1 = some F187x1 := by kernel_rfl
@[simp] theorem ft187x1 : F187x1.type = 28 := by kernel_rfl
@[simp] theorem fo187x1 : F187x1.offset = 4 := by kernel_rfl
noncomputable def F187x2 : Field := (fieldOf I187 2).getD default
@[simp] theorem fi187x2 : fieldOf I187 2 = some F187x2 := by kernel_rfl
@[simp] theorem ft187x2 : F187x2.type = 80 := by kernel_rfl
@[simp] theorem fo187x2 : F187x2.offset = 5 := by kernel_rfl
noncomputable def F187x3 : Field := (fieldOf I187 3).getD default
@[simp] theorem fi187x3 : fieldOf I187 3 = some F187x3 := by kernel_rfl
@[simp] theorem ft187x3 : F187x3.type = 30 := by kernel_rfl
@[simp] theorem fo187x3 : F187x3.offset = 6 := by kernel_rfl
noncomputable def I190 : TI := (ti Tryz.prog 190).getD ⟨.bool, 0, 0, [], false⟩
@[simp] theorem ti190 : ti Tryz.prog 190 = some I190 := by kernel_rfl
@[simp] theorem si190 : I190.size = 1 := by kernel_rfl
@[simp] theorem by190 : I190.bytes = 8 := by kernel_rfl
@[simp] theorem ze190 : I190.zero = [.nilptr] := by kernel_rfl
@[simp] theorem za190 : I190.zagg = false := by kernel_rfl
@[simp] theorem de190 : I190.desc = .pointer 122 := by kernel_rfl
noncomputable def I218 : TI := (ti Tryz.prog 218).getD ⟨.bool, 0, 0, [], false⟩
@[simp] theorem ti218 : ti Tryz.prog 218 = some I218 := by kernel_rfl
@[simp] theorem si218 : I218.size = 4 := by kernel_rfl
@[simp] theorem by218 : I218.bytes = 96 := by kernel_rfl
@[simp] theorem ze218 : I218.zero = [.snil, .snil, .snil, .snil] := by kernel_rfl
@[simp] theorem za218 : I218.zagg = true := by kernel_rfl
@[simp] theorem ag218 : isAggD I218.desc = true := by kernel_rfl
@[simp] theorem st218 : isStructD I218.desc = true := by kernel_rfl
@[simp] theorem fk218 : fieldsOk Tryz.prog (fieldsOf I218.desc) = true := by kernel_rfl
noncomputable def F218x0 : Field := (fieldOf I218 0).getD default
@[simp] theorem fi218x0 : fieldOf I218 0 = some F218x0 := by kernel_rfl
@[simp] theorem ft218x0 : F218x0.type = 32 := by kernel_rfl
@[simp] theorem fo218x0 : F218x0.offset = 0 := by kernel_rfl
noncomputable def F218x1 : Field := (fieldOf I218 1).getD default
@[simp] theorem fi218x1 : fieldOf I218 1 = some F218x1 := by kernel_rfl
@[simp] theorem ft218x1 : F218x1.type = 122 := by kernel_rfl
@[simp] theorem fo218x1 : F218x1.offset = 1 := by kernel_rfl
noncomputable def F218x2 : Field := (fieldOf I218 2).getD default
@[simp] theorem fi218x2 : fieldOf I218 2 = some F218x2 := by kernel_rfl
@[simp] theorem ft218x2 : F218x2.type = 28 := by kernel_rfl
@[simp] theorem fo218x2 : F218x2.offset = 3 := by kernel_rfl
noncomputable def I265 : TI := (ti Tryz.prog 265).getD ⟨.bool, 0, 0, [], false⟩
@[simp] theorem ti265 : ti Tryz.prog 265 = some I265 := by kernel_rfl
@[simp] theorem si265 : I265.size = 20 := by kernel_rfl
@[simp] theorem by265 : I265.bytes = 256 := by kernel_rfl
@[simp] theorem ze265 : I265.zero = [.int .i64 0, .bool false, .str [], .bool false, .int .i64 0, .str [], .int .i64 0, .int .i64 0, .snil, .int .i64 0, .int .i64 0, .str [], .int .i64 0, .snil, .snil, .int .i64 0, .str [], .int .i64 0, .int .i64 0, .snil] := by kernel_rfl
@[simp] theorem za265 : I265.zagg = true := by kernel_rfl
@[simp] theorem ag265 : isAggD I265.desc = true := by kernel_rfl
@[simp] theorem st265 : isStructD I265.desc = true := by kernel_rfl
@[simp] theorem fk265 : fieldsOk Tryz.prog (fieldsOf I265.desc) = true := by kernel_rfl
noncomputable def F265x0 : Field := (fieldOf I265 0).getD default
@[simp] theorem fi265x0 : fieldOf I265 0 = some F265x0 := by kernel_rfl
@[simp] theorem ft265x0 : F265x0.type = 3 := by kernel_rfl
@[simp] theorem fo265x0 : F265x0.offset = 0 := by kernel_rfl
noncomputable def F265x1 : Field := (fieldOf I265 1).getD default
@[simp] theorem fi265x1 : fieldOf I265 1 = some F265x1 := by kernel_rfl
@[simp] theorem ft265x1 : F265x1.type = 4 := by kernel_rfl
@[simp] theorem fo265x1 : F265x1.offset = 1 := by kernel_rfl
noncomputable def F265x2 : Field := (fieldOf I265 2).getD default
@[simp] theorem fi265x2 : fieldOf I265 2 = some F265x2 := by kernel_rfl
@[simp] theorem ft265x2 : F265x2.type = 9 := by kernel_rfl
@[simp] theorem fo265x2 : F265x2.offset = 2 := by kernel_rfl
noncomputable def F265x3 : Field := (fieldOf I265 3).getD default
@[simp] theorem fi265x3 : fieldOf I265 3 = some F265x3 := by kernel_rfl
@[simp] theorem ft265x3 : F265x3.type = 4 := by kernel_rfl
@[simp] theorem fo265x3 : F265x3.offset = 3 := by kernel_rfl
noncomputable def F265x4 : Field := (fieldOf I265 4).getD default
@[simp] theorem fi265x4 : fieldOf I265 4 = some F265x4 := by kernel_rfl
@[simp] theorem ft265x4 : F265x4.type = 30 := by kernel_rfl
@[simp] theorem fo265x4 : F265x4.offset = 4 := by kernel_rfl
noncomputable def F265x5 : Field := (fieldOf I265 5).getD default
@[simp] theorem fi265x5 : fieldOf I265 5 = some F265x5 := by kernel_rfl
@[simp] theorem ft265x5 : F265x5.type = 62 := by kernel_rfl
@[simp] theorem fo265x5 : F265x5.offset = 9 := by kernel_rfl
noncomputable def I269 : TI := (ti Tryz.prog 269).getD ⟨.bool, 0, 0, [], false⟩
@[simp] theorem ti269 : ti Tryz.prog 269 = some I269 := by kernel_rfl
@[simp] theorem si269 : I269.size = 1 := by kernel_rfl
@[simp] theorem by269 : I269.bytes = 24 := by kernel_rfl
@[simp] theorem ze269 : I269.zero = [.snil] := by kernel_rfl
@[simp] theorem za269 : I269.zagg = false := by kernel_rfl
@[simp] theorem de269 : I269.desc = .slice 71 := by kernel_rfl
noncomputable def I272 : TI := (ti Tryz.prog 272).getD ⟨.bool, 0, 0, [], false⟩
@[simp] theorem ti272 : ti Tryz.prog 272 = some I272 := by kernel_rfl
@[simp] theorem si272 : I272.size = 8 := by kernel_rfl
@[simp] theorem by272 : I272.bytes = 88 := by kernel_rfl
@[simp] theorem ze272 : I272.zero = [.bool false, .int .i64 0, .str [], .int .i64 0, .int .i64 0, .snil, .int .i64 0, .bool false] := by kernel_rfl
@[simp] theorem za272 : I272.zagg = true := by kernel_rfl
@[simp] theorem ag272 : isAggD I272.desc = true := by kernel_rfl
@[simp] theorem st272 : isStructD I272.desc = true := by kernel_rfl
@[simp] theorem fk272 : fieldsOk Tryz.prog (fieldsOf I272.desc) = true := by kernel_rfl
noncomputable def F272x0 : Field := (fieldOf I272 0).getD default
@[simp] theorem fi272x0 : fieldOf I272 0 = some F272x0 := by kernel_rfl
@[simp] theorem ft272x0 : F272x0.type = 4 := by kernel_rfl
@[simp] theorem fo272x0 : F272x0.offset = 0 := by kernel_rfl
noncomputable def F272x1 : Field := (fieldOf I272 1).getD default
@[simp] theorem fi272x1 : fieldOf I272 1 = some F272x1 := by kernel_rfl
@[simp] theorem ft272x1 : F272x1.type = 30 := by kernel_rfl
@[simp] theorem fo272x1 : F272x1.offset = 1 := by kernel_rfl
noncomputable def F272x2 : Field := (fieldOf I272 2).getD default
@[simp] theorem fi272x2 : fieldOf I272 2 = some F272x2 := by kernel_rfl
@[simp] theorem ft272x2 : F272x2.type = 3 := by kernel_rfl
@[simp] theorem fo272x2 : F272x2.offset = 6 := by kernel_rfl
noncomputable def F272x3 : Field := (fieldOf I272 3).getD default
@[simp] theorem fi272x3 : fieldOf I272 3 = some F272x3 := by kernel_rfl
@[simp] theorem ft272x3 : F272x3.type = 4 := by kernel_rfl
@[simp] theorem fo272x3 : F272x3.offset = 7 := by kernel_rfl
noncomputable def I274 : TI := (ti Tryz.prog 274).getD ⟨.bool, 0, 0, [], false⟩
@[simp] theorem ti274 : ti Tryz.prog 274 = some I274 := by kernel_rfl
@[simp] theorem si274 : I274.size = 10 := by kernel_rfl
@[simp] theorem by274 : I274.bytes = 104 := by kernel_rfl
@[simp] theorem ze274 : I274.zero = [.int .i64 0, .bool false, .int .i64 0, .str [], .int .i64 0, .int .i64 0, .snil, .int .i64 0, .bool false, .bool false] := by kernel_rfl
@[simp] theorem za274 : I274.zagg = true := by kernel_rfl
@[simp] theorem ag274 : isAggD I274.desc = true := by kernel_rfl
@[simp] theorem st274 : isStructD I274.desc = true := by kernel_rfl
@[simp] theorem fk274 : fieldsOk Tryz.prog (fieldsOf I274.desc) = true := by kernel_rfl
noncomputable def F274x0 : Field := (fieldOf I274 0).getD default
@[simp] theorem fi274x0 : fieldOf I274 0 = some F274x0 := by kernel_rfl
@[simp] theorem ft274x0 : F274x0.type = 3 := by kernel_rfl
@[simp] theorem fo274x0 : F274x0.offset = 0 := by kernel_rfl
noncomputable def F274x1 : Field := (fieldOf I274 1).getD default
@[simp] theorem fi274x1 : fieldOf I274 1 = some F274x1 := by kernel_rfl
@[simp] theorem ft274x1 : F274x1.type = 272 := by kernel_rfl
@[simp] theorem fo274x1 : F274x1.offset = 1 := by kernel_rfl
noncomputable def F274x2 : Field := (fieldOf I274 2).getD default
@[simp] theorem fi274x2 : fieldOf I274 2 = some F274x2 := by kernel_rfl
@[simp] theorem ft274x2 : F274x2.type = 4 := by kernel_rfl
@[simp] theorem fo274x2 : F274x2.offset = 9 := by kernel_rfl
noncomputable def I303 : TI := (ti Tryz.prog 303).getD ⟨.bool, 0, 0, [], false⟩
@[simp] theorem ti303 : ti Tryz.prog 303 = some I303 := by kernel_rfl
@[simp] theorem si303 : I303.size = 4 := by kernel_rfl
@[simp] theorem by303 : I303.bytes = 96 := by kernel_rfl
@[simp] theorem ze303 : I303.zero = [.snil, .snil, .snil, .snil] := by kernel_rfl
@[simp] theorem za303 : I303.zagg = true := by kernel_rfl
@[simp] theorem ag303 : isAggD I303.desc = true := by kernel_rfl
@[simp] theorem st303 : isStructD I303.desc = true := by kernel_rfl
@[simp] theorem fk303 : fieldsOk Tryz.prog (fieldsOf I303.desc) = true := by kernel_rfl
noncomputable def F303x0 : Field := (fieldOf I303 0).getD default
@[simp] theorem fi303x0 : fieldOf I303 0 = some F303x0 := by kernel_rfl
@[simp] theorem ft303x0 : F303x0.type = 122 := by kernel_rfl
@[simp] theorem fo303x0 : F303x0.offset = 0 := by kernel_rfl
noncomputable def F303x1 : Field := (fieldOf I303 1).getD default
@[simp] theorem fi303x1 : fieldOf I303 1 = some F303x1 := by kernel_rfl
@[simp] theorem ft303x1 : F303x1.type = 22 := by kernel_rfl
@[simp] theorem fo303x1 : F303x1.offset = 2 := by kernel_rfl
noncomputable def F303x2 : Field := (fieldOf I303 2).getD default
@[simp] theorem fi303x2 : fieldOf I303 2 = some F303x2 := by kernel_rfl
@[simp] theorem ft303x2 : F303x2.type = 160 := by kernel_rfl
@[simp] theorem fo303x2 : F303x2.offset = 3 := by kernel_rfl
noncomputable def I326 : TI := (ti Tryz.prog 326).getD ⟨.bool, 0, 0, [], false⟩
@[simp] theorem ti326 : ti Tryz.prog 326 = some I326 := by kernel_rfl
@[simp] theorem si326 : I326.size = 1 := by kernel_rfl
@[simp] theorem by326 : I326.bytes = 8 := by kernel_rfl
@[simp] theorem ze326 : I326.zero = [.nilptr] := by kernel_rfl
@[simp] theorem za326 : I326.zagg = false := by kernel_rfl
@[simp] theorem de326 : I326.desc = .pointer 328 := by kernel_rfl
noncomputable def I328 : TI := (ti Tryz.prog 328).getD ⟨.bool, 0, 0, [], false⟩
@[simp] theorem ti328 : ti Tryz.prog 328 = some I328 := by kernel_rfl
@[simp] theorem si328 : I328.size = 1 := by kernel_rfl
@[simp] theorem by328 : I328.bytes = 8 := by kernel_rfl
@[simp] theorem ze328 : I328.zero = [.nilptr] := by kernel_rfl
@[simp] theorem za328 : I328.zagg = true := by kernel_rfl
@[simp] theorem ag328 : isAggD I328.desc = true := by kernel_rfl
@[simp] theorem st328 : isStructD I328.desc = true := by kernel_rfl
@[simp] theorem fk328 : fieldsOk Tryz.prog (fieldsOf I328.desc) = true := by kernel_rfl
noncomputable def F328x0 : Field := (fieldOf I328 0).getD default
@[simp] theorem fi328x0 : fieldOf I328 0 = some F328x0 := by kernel_rfl
@[simp] theorem ft328x0 : F328x0.type = 190 := by kernel_rfl
@[simp] theorem fo328x0 : F328x0.offset = 0 := by kernel_rfl
noncomputable def I330 : TI := (ti Tryz.prog 330).getD ⟨.bool, 0, 0, [], false⟩
@[simp] theorem ti330 : ti Tryz.prog 330 = some I330 := by kernel_rfl
@[simp] theorem si330 : I330.size = 10 := by kernel_rfl
@[simp] theorem by330 : I330.bytes = 128 := by kernel_rfl
@[simp] theorem ze330 : I330.zero = [.int .i64 0, .str [], .int .i64 0, .int .i64 0, .snil, .int .i64 0, .str [], .int .i64 0, .int .i64 0, .snil] := by kernel_rfl
@[simp] theorem za330 : I330.zagg = true := by kernel_rfl
@[simp] theorem ag330 : isAggD I330.desc = true := by kernel_rfl
@[simp] theorem st330 : isStructD I330.desc = true := by kernel_rfl
@[simp] theorem fk330 : fieldsOk Tryz.prog (fieldsOf I330.desc) = true := by kernel_rfl
noncomputable def F330x0 : Field := (fieldOf I330 0).getD default
@[simp] theorem fi330x0 : fieldOf I330 0 = some F330x0 := by kernel_rfl
@[simp] theorem ft330x0 : F330x0.type = 30 := by kernel_rfl
@[simp] theorem fo330x0 : F330x0.offset = 0 := by kernel_rfl
noncomputable def F330x1 : Field := (fieldOf I330 1).getD default
@[simp] theorem fi330x1 : fieldOf I330 1 = some F330x1 := by kernel_rfl
@[simp] theorem ft330x1 : F330x1.type = 30 := by kernel_rfl
@[simp] theorem fo330x1 : F330x1.offset = 5 := by kernel_rfl
noncomputable def I331 : TI := (ti Tryz.prog 331).getD ⟨.bool, 0, 0, [], false⟩
@[simp] theorem ti331 : ti Tryz.prog 331 = some I331 := by kernel_rfl
@[simp] theorem si331 : I331.size = 1 := by kernel_rfl
@[simp] theorem by331 : I331.bytes = 24 := by kernel_rfl
@[simp] theorem ze331 : I331.zero = [.snil] := by kernel_rfl
@[simp] theorem za331 : I331.zagg = false := by kernel_rfl
@[simp] theorem de331 : I331.desc = .slice 330 := by kernel_rfl
noncomputable def I348 : TI := (ti Tryz.prog 348).getD ⟨.bool, 0, 0, [], false⟩
@[simp] theorem ti348 : ti Tryz.prog 348 = some I348 := by kernel_rfl
@[simp] theorem si348 : I348.size = 1 := by kernel_rfl
@[simp] theorem by348 : I348.bytes = 8 := by kernel_rfl
@[simp] theorem ze348 : I348.zero = [.nilmap] := by kernel_rfl
@[simp] theorem za348 : I348.zagg = false := by kernel_rfl
@[simp] theorem de348 : I348.desc = .map 3 4 := by kernel_rfl
end Go.Proofs.YtpcmebclpindjaaGreat
