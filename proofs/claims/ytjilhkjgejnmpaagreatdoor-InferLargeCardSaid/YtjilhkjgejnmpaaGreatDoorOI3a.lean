import Derived.Test.YtjilhkjgejnmpaaGreatDoorRows
import Derived.WalkKit
import Derived.ProofKit
import Derived.OpenShut
import Derived.JoinedOf
set_option linter.all false
noncomputable section
/- The law InferLarge: closed facts of its row. -/
namespace Go.Proofs.YtjilhkjgejnmpaaGreatDoor.inferLarge
theorem k_inPlace:(Rows.inferLargeRow.inPlace == Tryz.prog.inPlace 3)=true:=by kernel_rfl
theorem k_unfollowed:(Rows.inferLargeRow.unfollowed == Tryz.prog.unfollowed 3)=true:=by kernel_rfl
theorem k_recurses:(Rows.inferLargeRow.recurses == Tryz.prog.recurses 3)=true:=by kernel_rfl
theorem k_named:(Rows.inferLargeRow.named == Tryz.prog.varsNamed 3)=true:=by kernel_rfl
end Go.Proofs.YtjilhkjgejnmpaaGreatDoor.inferLarge
