import Derived.Test.YtjilhkjgejnmpaaGreatDoorRows
import Derived.WalkKit
import Derived.ProofKit
import Derived.OpenShut
import Derived.JoinedOf
set_option linter.all false
noncomputable section
/- The law CheckEscapes: closed facts of its row. -/
namespace Go.Proofs.YtjilhkjgejnmpaaGreatDoor.checkEscapes
theorem k_inPlace:(Rows.checkEscapesRow.inPlace == Tryz.prog.inPlace 4)=true:=by kernel_rfl
theorem k_unfollowed:(Rows.checkEscapesRow.unfollowed == Tryz.prog.unfollowed 4)=true:=by kernel_rfl
theorem k_recurses:(Rows.checkEscapesRow.recurses == Tryz.prog.recurses 4)=true:=by kernel_rfl
theorem k_named:(Rows.checkEscapesRow.named == Tryz.prog.varsNamed 4)=true:=by kernel_rfl
end Go.Proofs.YtjilhkjgejnmpaaGreatDoor.checkEscapes
