import Derived.Test.YtjilhkjgejnmpaaGreatDoorOT0
set_option linter.all false
noncomputable section
/- Reading. -/
namespace Go.Proofs.YtjilhkjgejnmpaaGreatDoor
open Go.J
theorem par2:runJ (envL Tryz.prog pol []) 2000 20 [.str str2]=some val2:=by kernel_rfl
theorem par8:runJ (envL Tryz.prog pol []) 2000 20 [.str str8]=some val8:=by kernel_rfl
theorem par14:runJ (envL Tryz.prog pol []) 2000 20 [.str str14]=some val14:=by kernel_rfl
end Go.Proofs.YtjilhkjgejnmpaaGreatDoor
