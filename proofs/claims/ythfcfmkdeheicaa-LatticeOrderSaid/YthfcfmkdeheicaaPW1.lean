import Derived.Test.YthfcfmkdeheicaaPB3
import Derived.Test.YthfcfmkdeheicaaJL
import Derived.Test.YthfcfmkdeheicaaJK
set_option linter.all false
/- The contracts of small functions, joined. -/
set_option linter.all false
namespace Go.Proofs.Ythfcfmkdeheicaa
open Go.J
open Go.J.Enc (enc)
set_option maxRecDepth 100000
set_option maxHeartbeats 1000000
theorem ite_inv {c : Prop} {_ : Decidable c} {α : Type} {x r : α} (h : (if c then some x else none) = some r) : c ∧ x = r := by
  split at h
  · cases h; exact ⟨‹_›, rfl⟩
  · cases h
theorem fo {f : Nat} {fn : Func} {sc : SC} (hf : Try.prog.funcs[f]? = some fn) (hb : fn.body.bind stripC = some sc) : FnOk Try.prog f := fnOk hf (by
  cases h : fn.body with
  | none => rw [h] at hb; cases hb
  | some c => rfl)
noncomputable abbrev EL (L : List (Nat × J.Spec)) : Env := envL Try.prog pol L
section
variable {ρ : Nat → Value} (hρ : J.Good ρ)
include hρ
noncomputable def modS : J.Spec := fnS (spec2 fun n m : Int => if -1000000 ≤ m ∧ m ≤ 1000000 then some (modI n m) else none)
theorem vMod : Valid ρ Try.prog 22 modS := v2 (fo Try.func22 BS_make_Mod) fun a b r h hs => by
  obtain ⟨h1, rfl⟩ := ite_inv h
  exact make_Mod_run hρ (E := EL []) rfl (consOk_list valid_nil) (by omega) (by omega) hs
noncomputable def fewS : J.Spec := fnS (spec1 fun l : List Int => some (decide (l.length ≤ 60)))
theorem vFew : Valid ρ Try.prog 11 fewS := v1 (fo Try.func11 BS_make_Few) fun a r h hs => by
  cases h
  exact make_Few_run hρ (E := EL []) rfl (consOk_list valid_nil) hs
noncomputable def conS : J.Spec := fnS (spec2 fun (n : List Nat) (l : List Ty) => if l.length ≤ 10000 then some (tCon n l) else none)
theorem vCon : Valid ρ Try.prog 67 conS := v2 (fo Try.func67 BS_ref3_Con) fun a b r h hs => by
  obtain ⟨h1, rfl⟩ := ite_inv h
  exact ref3_Con_run hρ (E := EL []) rfl (consOk_list valid_nil) h1 hs
theorem vInt : Valid ρ Try.prog 26 (fnS (spec0 tInt)) := v0 (fo Try.func26 BS_ref3_Int) fun hs =>
  ref3_Int_run hρ (E := EL [(67, conS)]) rfl (consOk_list (valid_cons (vCon hρ) valid_nil)) rfl hs
theorem vArrow : Valid ρ Try.prog 72 (fnS (spec2 fun a b : Ty => some (tArrow a b))) := v2 (fo Try.func72 BS_ref3_Arrow) fun a b r h hs => by
  cases h
  exact ref3_Arrow_run hρ (E := EL [(67, conS)]) rfl (consOk_list (valid_cons (vCon hρ) valid_nil)) rfl hs
theorem vVar : Valid ρ Try.prog 55 (fnS (spec1 fun i : Int => some (tVar i))) := v1 (fo Try.func55 BS_ref3_Var) fun a r h hs => by
  cases h
  exact ref3_Var_run hρ (E := EL []) rfl (consOk_list valid_nil) hs
theorem vRigid : Valid ρ Try.prog 59 (fnS (spec2 fun h i : Int => some (tRigid h i))) := v2 (fo Try.func59 BS_ref3_Rigid) fun a b r h hs => by
  cases h
  exact ref3_Rigid_run hρ (E := EL []) rfl (consOk_list valid_nil) hs
theorem vNext : Valid ρ Try.prog 58 (stS (stF1 nextF)) := s1 (fo Try.func58 BS_make_Tape_Next) fun s a q h hs id hid hg => by
  obtain ⟨⟨h1, h2⟩, rfl⟩ := ite_inv h
  exact make_Tape_Next_run hρ (E := EL [(22, modS)]) rfl (consOk_list (valid_cons (vMod hρ) valid_nil)) rfl h1.1 h1.2 h2 hs id hid hg
/-! ### equality -/
theorem vReplace (d : Nat) : Valid ρ Try.prog 50 (fnS (spec2 (replF d))) := by
  induction d with
  | zero =>
    refine v2 (fo Try.func50 BS_ref3_Replace) fun a b r h hs => ?_
    obtain ⟨⟨h1, h2, h3⟩, rfl⟩ := ite_inv h
    have := Ty.size_eq a
    omega
  | succ d ih =>
    refine v2 (fo Try.func50 BS_ref3_Replace) fun a b r h hs => ?_
    obtain ⟨⟨h1, h2, h3⟩, rfl⟩ := ite_inv h
    exact ref3_Replace_run hρ (E := EL [(50, fnS (spec2 (replF d)))]) rfl (consOk_list (valid_cons ih valid_nil)) rfl h1 h2 h3 hs
end
end Go.Proofs.Ythfcfmkdeheicaa
