import Derived.Test.YtjilhkjgejnmpaaGreatDoorOT0
set_option linter.all false
noncomputable section
/- Reading. -/
namespace Go.Proofs.YtjilhkjgejnmpaaGreatDoor
open Go.J
theorem par5:runJ (envL Tryz.prog pol []) 2000 20 [.str str5]=some val5:=by kernel_rfl
theorem par11:runJ (envL Tryz.prog pol []) 2000 20 [.str str11]=some val11:=by kernel_rfl
end Go.Proofs.YtjilhkjgejnmpaaGreatDoor
