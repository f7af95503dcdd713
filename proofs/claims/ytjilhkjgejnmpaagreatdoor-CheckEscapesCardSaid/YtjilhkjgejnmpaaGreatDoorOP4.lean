import Derived.Test.YtjilhkjgejnmpaaGreatDoorOT0
set_option linter.all false
noncomputable section
/- Reading. -/
namespace Go.Proofs.YtjilhkjgejnmpaaGreatDoor
open Go.J
theorem par4:runJ (envL Tryz.prog pol []) 2000 20 [.str str4]=some val4:=by kernel_rfl
theorem par10:runJ (envL Tryz.prog pol []) 2000 20 [.str str10]=some val10:=by kernel_rfl
theorem par16:runJ (envL Tryz.prog pol []) 2000 20 [.str str16]=some val16:=by kernel_rfl
end Go.Proofs.YtjilhkjgejnmpaaGreatDoor
