import Derived.Test.YtjilhkjgejnmpaaGreatDoorOT0
set_option linter.all false
noncomputable section
/- Reading. -/
namespace Go.Proofs.YtjilhkjgejnmpaaGreatDoor
open Go.J
theorem par0:runJ (envL Tryz.prog pol []) 2000 20 [.str str0]=some val0:=by kernel_rfl
theorem par6:runJ (envL Tryz.prog pol []) 2000 20 [.str str6]=some val6:=by kernel_rfl
theorem par12:runJ (envL Tryz.prog pol []) 2000 20 [.str str12]=some val12:=by kernel_rfl
end Go.Proofs.YtjilhkjgejnmpaaGreatDoor
