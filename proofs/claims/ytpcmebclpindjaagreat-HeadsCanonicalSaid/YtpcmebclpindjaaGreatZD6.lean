import Derived.Test.YtpcmebclpindjaaGreatZD5
set_option linter.all false
set_option linter.all false
namespace Go.Proofs.YtpcmebclpindjaaGreat
open Go.J
open Go.J.Enc (enc)
section
variable {ρ : Nat → Value} (hρ : J.Good ρ)
include hρ
noncomputable def canon30F (l : List Ty) : Option (List Ty) := if Ty.oks l = true ∧ l.length ≤ 1000 ∧ Ty.sizes l ≤ 10000 ∧ (varsM l).length ≤ 1000 then some (l.map (Ty.repl (numA (varsM l) 0))) else none
noncomputable def canon30S : J.Spec := fnS (spec1 canon30F)
theorem vCanon30 : Valid ρ Tryz.prog 20 canon30S := v1 (fo Tryz.func20 BS_ref30_Canonical) fun a r h hs => by
  obtain ⟨⟨h1, h2, h3, h4⟩, rfl⟩ := ite_inv h
  exact ref30_Canonical_run hρ (E := EL [(61, varsS1 10000), (62, fnS (spec2 (replF 10000))), (26, fnS (spec1 fun i : Int => some (tVar i)))]) rfl
    (consOk_list (valid_cons (vVars hρ 10000 (by omega)) (valid_cons (vReplace hρ 10000) (valid_cons (vVar hρ) valid_nil)))) rfl rfl rfl h1 h2 h3 h4 hs
end
end Go.Proofs.YtpcmebclpindjaaGreat
