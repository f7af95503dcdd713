/- Which contexts and goals are closed: the program finds it as the reference does, for made contexts, one more entry, other types and a big one; made contexts are closed: true at every choice of data declarations, codes and numbers; the arguments read afterwards as they read before. No condition. -/
import Derived.Test.YtpcmebclpindjaaGreatZKNq
import Derived.Test.YtpcmebclpindjaaGreatZKNqa
import Derived.Test.YtpcmebclpindjaaGreatZKNqb
set_option linter.all false
noncomputable section
namespace Go.Proofs.YtpcmebclpindjaaGreat.normalClosed
open Go.J Go.ChangeShapes Go.WideShapes Go.ChangeAt Go.RowKit
open Go.J.Enc (enc)
theorem closed:joinedFacts Tryz.prog 8 Tryz.f8 Rows.normalClosedSpec Rows.normalClosedRow=true:=by
 unfold joinedFacts;rw[zrc,zkJ,zpe,z5a]
 kernel_rfl
theorem over:Rows.normalClosedRow.holds Tryz.pinned (OpenSpec.ofChange Rows.normalClosedSpec) :=
 OpenClaim.holds_of_wide 8 Tryz.f8 rfl rfl rfl rfl rfl rfl rfl ⟨rfl,rfl,rfl,rfl,rfl⟩ rfl rfl rfl rfl rfl (by kernel_rfl) Tryz.func8 closed
  (of_decide_eq_true (by kernel_rfl)) (by unfold Func.isWrapper;first|(rw[if_pos (by decide +kernel)];kernel_rfl)|(rw[if_neg (by decide +kernel)];exact⟨rfl,rfl⟩))
  (fun os started H enc _=>lifted os started H enc)
theorem proved:Rows.NormalClosedSaid :=
 over
#print axioms proved
end Go.Proofs.YtpcmebclpindjaaGreat.normalClosed
