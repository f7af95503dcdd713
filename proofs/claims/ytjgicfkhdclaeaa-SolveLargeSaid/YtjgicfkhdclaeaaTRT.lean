import Derived.Test.YtjgicfkhdclaeaaYT
import Derived.Test.YtjgicfkhdclaeaaRows
set_option linter.all false
namespace Go.Proofs.Ytjgicfkhdclaeaa
open Go.J
noncomputable def I98 : TI := (ti Try.prog 98).getD ⟨.bool, 0, 0, [], false⟩
@[simp] theorem ti98 : ti Try.prog 98 = some I98 := by kernel_rfl
@[simp] theorem si98 : I98.size = 1 := by kernel_rfl
@[simp] theorem by98 : I98.bytes = 8 := by kernel_rfl
@[simp] theorem ze98 : I98.zero = [.nilmap] := by kernel_rfl
@[simp] theorem za98 : I98.zagg = false := by kernel_rfl
@[simp] theorem de98 : I98.desc = .map 3 31 := by kernel_rfl
noncomputable def I100 : TI := (ti Try.prog 100).getD ⟨.bool, 0, 0, [], false⟩
@[simp] theorem ti100 : ti Try.prog 100 = some I100 := by kernel_rfl
@[simp] theorem si100 : I100.size = 2 := by kernel_rfl
@[simp] theorem by100 : I100.bytes = 16 := by kernel_rfl
@[simp] theorem ze100 : I100.zero = [.nilmap, .nilmap] := by kernel_rfl
@[simp] theorem za100 : I100.zagg = true := by kernel_rfl
@[simp] theorem ag100 : isAggD I100.desc = true := by kernel_rfl
@[simp] theorem st100 : isStructD I100.desc = true := by kernel_rfl
@[simp] theorem fk100 : fieldsOk Try.prog (fieldsOf I100.desc) = true := by kernel_rfl
noncomputable def F100x0 : Field := (fieldOf I100 0).getD default
@[simp] theorem fi100x0 : fieldOf I100 0 = some F100x0 := by kernel_rfl
@[simp] theorem ft100x0 : F100x0.type = 98 := by kernel_rfl
@[simp] theorem fo100x0 : F100x0.offset = 0 := by kernel_rfl
noncomputable def F100x1 : Field := (fieldOf I100 1).getD default
@[simp] theorem fi100x1 : fieldOf I100 1 = some F100x1 := by kernel_rfl
@[simp] theorem ft100x1 : F100x1.type = 98 := by kernel_rfl
@[simp] theorem fo100x1 : F100x1.offset = 1 := by kernel_rfl
end Go.Proofs.Ytjgicfkhdclaeaa
