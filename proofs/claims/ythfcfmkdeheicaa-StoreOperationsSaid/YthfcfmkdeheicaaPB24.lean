import Derived.Test.YthfcfmkdeheicaaPB23
import Derived.Test.YthfcfmkdeheicaaJP
set_option linter.all false
/- Types made valid; the law StoreOperations: what its function computes. -/
set_option linter.all false
namespace Go.Proofs.Ythfcfmkdeheicaa
open Go.J
open Go.J.Enc (enc)
set_option maxRecDepth 100000
set_option maxHeartbeats 4000000
def validOr (t : Ty) : Ty := if t.valid = true then t else tInt
noncomputable def validTyS : J.Spec := fnS (spec1 fun t : Ty => if t.size ≤ 10000 ∧ t.short = true then some (validOr t) else none)
noncomputable def yesS : J.Spec := fnS (spec0 true)
theorem size_ok (n : Nat) (hn : n ≤ 10000) : ∀ t : Ty, t.size ≤ n → t.ok = true := by
  intro t
  induction t using Ty.ind with
  | h t ih =>
    intro h
    have h1 := Ty.size_eq t
    have h2 := args_le t.args
    exact Ty.ok_iff.2 ⟨by omega, fun x hx => ih x hx (by have := Ty.size_arg hx; omega)⟩
section
variable {ρ : Nat → Value} (hρ : J.Good ρ) {E : Env} (hE : E.P = Try.prog) (hcon : ConsOk ρ E)
include hρ hE hcon
theorem make_ValidType_run (h1 : E.con 57 = rvalidS 10000) (h2 : E.con 26 = fnS (spec0 tInt)) {t : Ty} (h3 : t.size ≤ 10000) (h4 : t.short = true) (hs : HS) : CallOk ρ Try.prog 13 [enc t] hs (enc (validOr t)) hs := by
  refine fn hρ hE hcon Try.func13 BS_make_ValidType rfl (by simp) ?_ hs
  unfold validOr
  cases hv : t.valid with
  | true => simp [S_make_ValidType_r0, S_make_ValidType_r1, S_make_ValidType_r2, S_make_ValidType_r3, S_make_ValidType, hE, h1, h2, rvalidS, h3, h4, hv]
  | false =>
    generalize tInt = w at h2
    simp [S_make_ValidType_r0, S_make_ValidType_r1, S_make_ValidType_r2, S_make_ValidType_r3, S_make_ValidType, hE, h1, h2, rvalidS, h3, h4, hv]
end
end Go.Proofs.Ythfcfmkdeheicaa
