import Derived.Test.YtjilhkjgejnmpaaGreatDoorOT0
set_option linter.all false
noncomputable section
/- Reading. -/
namespace Go.Proofs.YtjilhkjgejnmpaaGreatDoor
open Go.J
theorem par1:runJ (envL Tryz.prog pol []) 2000 20 [.str str1]=some val1:=by kernel_rfl
theorem par7:runJ (envL Tryz.prog pol []) 2000 20 [.str str7]=some val7:=by kernel_rfl
theorem par13:runJ (envL Tryz.prog pol []) 2000 20 [.str str13]=some val13:=by kernel_rfl
end Go.Proofs.YtjilhkjgejnmpaaGreatDoor
