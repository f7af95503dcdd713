import Derived.Test.YtjgicfkhdclaeaaJG
import Derived.Test.YtjgicfkhdclaeaaRows
set_option linter.all false
namespace Go.Proofs.Ytjgicfkhdclaeaa
open Go.J
noncomputable def I3 : TI := (ti Try.prog 3).getD ⟨.bool, 0, 0, [], false⟩
@[simp] theorem ti3 : ti Try.prog 3 = some I3 := by kernel_rfl
@[simp] theorem si3 : I3.size = 1 := by kernel_rfl
@[simp] theorem by3 : I3.bytes = 8 := by kernel_rfl
@[simp] theorem ze3 : I3.zero = [.int .i64 0] := by kernel_rfl
@[simp] theorem za3 : I3.zagg = false := by kernel_rfl
@[simp] theorem de3 : I3.desc = .int .i64 := by kernel_rfl
noncomputable def I4 : TI := (ti Try.prog 4).getD ⟨.bool, 0, 0, [], false⟩
@[simp] theorem ti4 : ti Try.prog 4 = some I4 := by kernel_rfl
@[simp] theorem si4 : I4.size = 1 := by kernel_rfl
@[simp] theorem by4 : I4.bytes = 1 := by kernel_rfl
@[simp] theorem ze4 : I4.zero = [.bool false] := by kernel_rfl
@[simp] theorem za4 : I4.zagg = false := by kernel_rfl
@[simp] theorem de4 : I4.desc = .bool := by kernel_rfl
noncomputable def I9 : TI := (ti Try.prog 9).getD ⟨.bool, 0, 0, [], false⟩
@[simp] theorem ti9 : ti Try.prog 9 = some I9 := by kernel_rfl
@[simp] theorem si9 : I9.size = 1 := by kernel_rfl
@[simp] theorem by9 : I9.bytes = 16 := by kernel_rfl
@[simp] theorem ze9 : I9.zero = [.str []] := by kernel_rfl
@[simp] theorem za9 : I9.zagg = false := by kernel_rfl
@[simp] theorem de9 : I9.desc = .string := by kernel_rfl
noncomputable def I24 : TI := (ti Try.prog 24).getD ⟨.bool, 0, 0, [], false⟩
@[simp] theorem ti24 : ti Try.prog 24 = some I24 := by kernel_rfl
@[simp] theorem si24 : I24.size = 1 := by kernel_rfl
@[simp] theorem by24 : I24.bytes = 24 := by kernel_rfl
@[simp] theorem ze24 : I24.zero = [.snil] := by kernel_rfl
@[simp] theorem za24 : I24.zagg = false := by kernel_rfl
@[simp] theorem de24 : I24.desc = .slice 39 := by kernel_rfl
noncomputable def I25 : TI := (ti Try.prog 25).getD ⟨.bool, 0, 0, [], false⟩
@[simp] theorem ti25 : ti Try.prog 25 = some I25 := by kernel_rfl
@[simp] theorem si25 : I25.size = 1 := by kernel_rfl
@[simp] theorem by25 : I25.bytes = 24 := by kernel_rfl
@[simp] theorem ze25 : I25.zero = [.snil] := by kernel_rfl
@[simp] theorem za25 : I25.zagg = false := by kernel_rfl
@[simp] theorem de25 : I25.desc = .slice 64 := by kernel_rfl
noncomputable def I27 : TI := (ti Try.prog 27).getD ⟨.bool, 0, 0, [], false⟩
@[simp] theorem ti27 : ti Try.prog 27 = some I27 := by kernel_rfl
@[simp] theorem si27 : I27.size = 2 := by kernel_rfl
@[simp] theorem by27 : I27.bytes = 48 := by kernel_rfl
@[simp] theorem ze27 : I27.zero = [.snil, .snil] := by kernel_rfl
@[simp] theorem za27 : I27.zagg = true := by kernel_rfl
@[simp] theorem ag27 : isAggD I27.desc = true := by kernel_rfl
@[simp] theorem st27 : isStructD I27.desc = true := by kernel_rfl
@[simp] theorem fk27 : fieldsOk Try.prog (fieldsOf I27.desc) = true := by kernel_rfl
noncomputable def F27x0 : Field := (fieldOf I27 0).getD default
@[simp] theorem fi27x0 : fieldOf I27 0 = some F27x0 := by kernel_rfl
@[simp] theorem ft27x0 : F27x0.type = 24 := by kernel_rfl
@[simp] theorem fo27x0 : F27x0.offset = 0 := by kernel_rfl
noncomputable def F27x1 : Field := (fieldOf I27 1).getD default
@[simp] theorem fi27x1 : fieldOf I27 1 = some F27x1 := by kernel_rfl
@[simp] theorem ft27x1 : F27x1.type = 25 := by kernel_rfl
@[simp] theorem fo27x1 : F27x1.offset = 1 := by kernel_rfl
noncomputable def I29 : TI := (ti Try.prog 29).getD ⟨.bool, 0, 0, [], false⟩
@[simp] theorem ti29 : ti Try.prog 29 = some I29 := by kernel_rfl
@[simp] theorem si29 : I29.size = 1 := by kernel_rfl
@[simp] theorem by29 : I29.bytes = 24 := by kernel_rfl
@[simp] theorem ze29 : I29.zero = [.snil] := by kernel_rfl
@[simp] theorem za29 : I29.zagg = false := by kernel_rfl
@[simp] theorem de29 : I29.desc = .slice 31 := by kernel_rfl
noncomputable def I31 : TI := (ti Try.prog 31).getD ⟨.bool, 0, 0, [], false⟩
@[simp] theorem ti31 : ti Try.prog 31 = some I31 := by kernel_rfl
@[simp] theorem si31 : I31.size = 5 := by kernel_rfl
@[simp] theorem by31 : I31.bytes = 64 := by kernel_rfl
@[simp] theorem ze31 : I31.zero = [.int .i64 0, .str [], .int .i64 0, .int .i64 0, .snil] := by kernel_rfl
@[simp] theorem za31 : I31.zagg = true := by kernel_rfl
@[simp] theorem ag31 : isAggD I31.desc = true := by kernel_rfl
@[simp] theorem st31 : isStructD I31.desc = true := by kernel_rfl
@[simp] theorem fk31 : fieldsOk Try.prog (fieldsOf I31.desc) = true := by kernel_rfl
noncomputable def F31x0 : Field := (fieldOf I31 0).getD default
@[simp] theorem fi31x0 : fieldOf I31 0 = some F31x0 := by kernel_rfl
@[simp] theorem ft31x0 : F31x0.type = 3 := by kernel_rfl
@[simp] theorem fo31x0 : F31x0.offset = 0 := by kernel_rfl
noncomputable def F31x1 : Field := (fieldOf I31 1).getD default
@[simp] theorem fi31x1 : fieldOf I31 1 = some F31x1 := by kernel_rfl
@[simp] theorem ft31x1 : F31x1.type = 9 := by kernel_rfl
@[simp] theorem fo31x1 : F31x1.offset = 1 := by kernel_rfl
noncomputable def F31x2 : Field := (fieldOf I31 2).getD default
@[simp] theorem fi31x2 : fieldOf I31 2 = some F31x2 := by kernel_rfl
@[simp] theorem ft31x2 : F31x2.type = 3 := by kernel_rfl
@[simp] theorem fo31x2 : F31x2.offset = 2 := by kernel_rfl
noncomputable def F31x3 : Field := (fieldOf I31 3).getD default
@[simp] theorem fi31x3 : fieldOf I31 3 = some F31x3 := by kernel_rfl
@[simp] theorem ft31x3 : F31x3.type = 3 := by kernel_rfl
@[simp] theorem fo31x3 : F31x3.offset = 3 := by kernel_rfl
noncomputable def F31x4 : Field := (fieldOf I31 4).getD default
@[simp] theorem fi31x4 : fieldOf I31 4 = some F31x4 := by kernel_rfl
@[simp] theorem ft31x4 : F31x4.type = 29 := by kernel_rfl
@[simp] theorem fo31x4 : F31x4.offset = 4 := by kernel_rfl
noncomputable def I39 : TI := (ti Try.prog 39).getD ⟨.bool, 0, 0, [], false⟩
@[simp] theorem ti39 : ti Try.prog 39 = some I39 := by kernel_rfl
@[simp] theorem si39 : I39.size = 8 := by kernel_rfl
@[simp] theorem by39 : I39.bytes = 88 := by kernel_rfl
@[simp] theorem ze39 : I39.zero = [.bool false, .int .i64 0, .str [], .int .i64 0, .int .i64 0, .snil, .int .i64 0, .bool false] := by kernel_rfl
@[simp] theorem za39 : I39.zagg = true := by kernel_rfl
@[simp] theorem ag39 : isAggD I39.desc = true := by kernel_rfl
@[simp] theorem st39 : isStructD I39.desc = true := by kernel_rfl
@[simp] theorem fk39 : fieldsOk Try.prog (fieldsOf I39.desc) = true := by kernel_rfl
noncomputable def F39x0 : Field := (fieldOf I39 0).getD default
@[simp] theorem fi39x0 : fieldOf I39 0 = some F39x0 := by kernel_rfl
@[simp] theorem ft39x0 : F39x0.type = 4 := by kernel_rfl
@[simp] theorem fo39x0 : F39x0.offset = 0 := by kernel_rfl
noncomputable def F39x1 : Field := (fieldOf I39 1).getD default
@[simp] theorem fi39x1 : fieldOf I39 1 = some F39x1 := by kernel_rfl
@[simp] theorem ft39x1 : F39x1.type = 31 := by kernel_rfl
@[simp] theorem fo39x1 : F39x1.offset = 1 := by kernel_rfl
noncomputable def F39x2 : Field := (fieldOf I39 2).getD default
@[simp] theorem fi39x2 : fieldOf I39 2 = some F39x2 := by kernel_rfl
@[simp] theorem ft39x2 : F39x2.type = 3 := by kernel_rfl
@[simp] theorem fo39x2 : F39x2.offset = 6 := by kernel_rfl
noncomputable def F39x3 : Field := (fieldOf I39 3).getD default
@[simp] theorem fi39x3 : fieldOf I39 3 = some F39x3 := by kernel_rfl
@[simp] theorem ft39x3 : F39x3.type = 4 := by kernel_rfl
@[simp] theorem fo39x3 : F39x3.offset = 7 := by kernel_rfl
noncomputable def I64 : TI := (ti Try.prog 64).getD ⟨.bool, 0, 0, [], false⟩
@[simp] theorem ti64 : ti Try.prog 64 = some I64 := by kernel_rfl
@[simp] theorem si64 : I64.size = 10 := by kernel_rfl
@[simp] theorem by64 : I64.bytes = 104 := by kernel_rfl
@[simp] theorem ze64 : I64.zero = [.int .i64 0, .bool false, .int .i64 0, .str [], .int .i64 0, .int .i64 0, .snil, .int .i64 0, .bool false, .bool false] := by kernel_rfl
@[simp] theorem za64 : I64.zagg = true := by kernel_rfl
@[simp] theorem ag64 : isAggD I64.desc = true := by kernel_rfl
@[simp] theorem st64 : isStructD I64.desc = true := by kernel_rfl
@[simp] theorem fk64 : fieldsOk Try.prog (fieldsOf I64.desc) = true := by kernel_rfl
noncomputable def F64x0 : Field := (fieldOf I64 0).getD default
@[simp] theorem fi64x0 : fieldOf I64 0 = some F64x0 := by kernel_rfl
@[simp] theorem ft64x0 : F64x0.type = 3 := by kernel_rfl
@[simp] theorem fo64x0 : F64x0.offset = 0 := by kernel_rfl
noncomputable def F64x1 : Field := (fieldOf I64 1).getD default
@[simp] theorem fi64x1 : fieldOf I64 1 = some F64x1 := by kernel_rfl
@[simp] theorem ft64x1 : F64x1.type = 39 := by kernel_rfl
@[simp] theorem fo64x1 : F64x1.offset = 1 := by kernel_rfl
noncomputable def F64x2 : Field := (fieldOf I64 2).getD default
@[simp] theorem fi64x2 : fieldOf I64 2 = some F64x2 := by kernel_rfl
@[simp] theorem ft64x2 : F64x2.type = 4 := by kernel_rfl
@[simp] theorem fo64x2 : F64x2.offset = 9 := by kernel_rfl
end Go.Proofs.Ytjgicfkhdclaeaa
