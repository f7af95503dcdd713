/- Numbering the type variables of types: the program does it as the reference does, and doing it twice is doing it once: true at every choice of data declarations and codes; the arguments read afterwards as they read before. No condition. -/
import Derived.Test.YtpcmebclpindjaaGreatZHCan
import Derived.Test.YtpcmebclpindjaaGreatZHKa
import Derived.Test.YtpcmebclpindjaaGreatZHKb
set_option linter.all false
set_option linter.all false
namespace Go.Proofs.YtpcmebclpindjaaGreat.headsCanonical
open Go.J Go.ChangeShapes Go.WideShapes Go.ChangeAt Go.RowKit
open Go.J.Enc (enc)
theorem closed : joinedFacts Tryz.prog 3 Tryz.f3 Rows.headsCanonicalSpec Rows.headsCanonicalRow = true := by
  unfold joinedFacts
  rw [k_inPlace, k_unfollowed, k_recurses, k_named]
  kernel_rfl
theorem over : Rows.headsCanonicalRow.holds Tryz.pinned (OpenSpec.ofChange Rows.headsCanonicalSpec) :=
  OpenClaim.holds_of_wide 3 Tryz.f3 rfl rfl rfl rfl rfl rfl rfl ⟨rfl, rfl, rfl, rfl, rfl⟩ rfl rfl rfl rfl rfl (by kernel_rfl) Tryz.func3 closed
    (of_decide_eq_true (by kernel_rfl)) (by unfold Func.isWrapper; first | (rw [if_pos (by decide +kernel)]; kernel_rfl) | (rw [if_neg (by decide +kernel)]; exact ⟨rfl, rfl⟩))
    (fun os started H enc _ => lifted os started H enc)

/-- ████ THE STATEMENT ████ -/
theorem proved : Rows.HeadsCanonicalSaid :=
  over
#print axioms proved
end Go.Proofs.YtpcmebclpindjaaGreat.headsCanonical
