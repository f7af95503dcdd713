/- The terms of the shape of normal terms have this shape, and the program finds it as the reference does, for any expression: true at every choice of data declarations and codes; the arguments read afterwards as they read before. No condition. -/
import Derived.Test.YtpcmebclpindjaaGreatZHNq
import Derived.Test.YtpcmebclpindjaaGreatZHNqa
import Derived.Test.YtpcmebclpindjaaGreatZHNqb
set_option linter.all false
noncomputable section
namespace Go.Proofs.YtpcmebclpindjaaGreat.normalShapes
open Go.J Go.ChangeShapes Go.WideShapes Go.ChangeAt Go.RowKit
open Go.J.Enc (enc)
theorem closed:joinedFacts Tryz.prog 7 Tryz.f7 Rows.normalShapesSpec Rows.normalShapesRow=true:=by
 unfold joinedFacts;rw[zon,zjx,zmE,zz6]
 kernel_rfl
theorem over:Rows.normalShapesRow.holds Tryz.pinned (OpenSpec.ofChange Rows.normalShapesSpec) :=
 OpenClaim.holds_of_wide 7 Tryz.f7 rfl rfl rfl rfl rfl rfl rfl ⟨rfl,rfl,rfl,rfl,rfl⟩ rfl rfl rfl rfl rfl (by kernel_rfl) Tryz.func7 closed
  (of_decide_eq_true (by kernel_rfl)) (by unfold Func.isWrapper;first|(rw[if_pos (by decide +kernel)];kernel_rfl)|(rw[if_neg (by decide +kernel)];exact⟨rfl,rfl⟩))
  (fun os started H enc _=>lifted os started H enc)
theorem proved:Rows.NormalShapesSaid :=
 over
#print axioms proved
end Go.Proofs.YtpcmebclpindjaaGreat.normalShapes
