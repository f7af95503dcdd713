import Derived.Test.YtjilhkjgejnmpaaGreatDoorOT0
set_option linter.all false
noncomputable section
/- Reading. -/
namespace Go.Proofs.YtjilhkjgejnmpaaGreatDoor
open Go.J
theorem par3:runJ (envL Tryz.prog pol []) 2000 20 [.str str3]=some val3:=by kernel_rfl
theorem par9:runJ (envL Tryz.prog pol []) 2000 20 [.str str9]=some val9:=by kernel_rfl
theorem par15:runJ (envL Tryz.prog pol []) 2000 20 [.str str15]=some val15:=by kernel_rfl
end Go.Proofs.YtjilhkjgejnmpaaGreatDoor
