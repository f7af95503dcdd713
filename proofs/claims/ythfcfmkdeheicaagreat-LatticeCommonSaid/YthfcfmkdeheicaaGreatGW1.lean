import Derived.Test.YthfcfmkdeheicaaGreatGB3
import Derived.Test.YthfcfmkdeheicaaGreatJL
import Derived.Test.YthfcfmkdeheicaaGreatJK
set_option linter.all false
/- The contracts of small functions, joined. -/
set_option linter.all false
namespace Go.Proofs.YthfcfmkdeheicaaGreat
open Go.J
open Go.J.Enc (enc)
set_option maxRecDepth 100000
set_option maxHeartbeats 1000000
theorem ite_inv {c : Prop} {_ : Decidable c} {α : Type} {x r : α} (h : (if c then some x else none) = some r) : c ∧ x = r := by
  split at h
  · cases h; exact ⟨‹_›, rfl⟩
  · cases h
theorem fo {f : Nat} {fn : Func} {sc : SC} (hf : Tryz.prog.funcs[f]? = some fn) (hb : fn.body.bind stripC = some sc) : FnOk Tryz.prog f := fnOk hf (by
  cases h : fn.body with
  | none => rw [h] at hb; cases hb
  | some c => rfl)
noncomputable abbrev EL (L : List (Nat × J.Spec)) : Env := envL Tryz.prog pol L
section
variable {ρ : Nat → Value} (hρ : J.Good ρ)
include hρ
noncomputable def modS : J.Spec := fnS (spec2 fun n m : Int => if -1000000 ≤ m ∧ m ≤ 1000000 then some (modI n m) else none)
theorem vMod : Valid ρ Tryz.prog 14 modS := v2 (fo Tryz.func14 fB14) fun a b r h hs => by
  obtain ⟨h1, rfl⟩ := ite_inv h
  exact make_Mod_run hρ (E := EL []) rfl (consOk_list valid_nil) (by omega) (by omega) hs
noncomputable def fewS : J.Spec := fnS (spec1 fun l : List Int => some (decide (l.length ≤ 60)))
theorem vFew : Valid ρ Tryz.prog 10 fewS := v1 (fo Tryz.func10 fB10) fun a r h hs => by
  cases h
  exact make_Few_run hρ (E := EL []) rfl (consOk_list valid_nil) hs
noncomputable def conS : J.Spec := fnS (spec2 fun (n : List Nat) (l : List Ty) => if l.length ≤ 10000 then some (tCon n l) else none)
theorem vCon : Valid ρ Tryz.prog 61 conS := v2 (fo Tryz.func61 fB61) fun a b r h hs => by
  obtain ⟨h1, rfl⟩ := ite_inv h
  exact ref3_Con_run hρ (E := EL []) rfl (consOk_list valid_nil) h1 hs
theorem vInt : Valid ρ Tryz.prog 49 (fnS (spec0 tInt)) := v0 (fo Tryz.func49 fB49) fun hs =>
  ref3_Int_run hρ (E := EL [(61, conS)]) rfl (consOk_list (valid_cons (vCon hρ) valid_nil)) rfl hs
theorem vArrow : Valid ρ Tryz.prog 62 (fnS (spec2 fun a b : Ty => some (tArrow a b))) := v2 (fo Tryz.func62 fB62) fun a b r h hs => by
  cases h
  exact ref3_Arrow_run hρ (E := EL [(61, conS)]) rfl (consOk_list (valid_cons (vCon hρ) valid_nil)) rfl hs
theorem vVar : Valid ρ Tryz.prog 52 (fnS (spec1 fun i : Int => some (tVar i))) := v1 (fo Tryz.func52 fB52) fun a r h hs => by
  cases h
  exact ref3_Var_run hρ (E := EL []) rfl (consOk_list valid_nil) hs
theorem vRigid : Valid ρ Tryz.prog 58 (fnS (spec2 fun h i : Int => some (tRigid h i))) := v2 (fo Tryz.func58 fB58) fun a b r h hs => by
  cases h
  exact ref3_Rigid_run hρ (E := EL []) rfl (consOk_list valid_nil) hs
theorem vNext : Valid ρ Tryz.prog 56 (stS (stF1 nextF)) := s1 (fo Tryz.func56 fB56) fun s a q h hs id hid hg => by
  obtain ⟨⟨h1, h2⟩, rfl⟩ := ite_inv h
  exact make_Tape_Next_run hρ (E := EL [(14, modS)]) rfl (consOk_list (valid_cons (vMod hρ) valid_nil)) rfl h1.1 h1.2 h2 hs id hid hg
/-! ### equality -/
theorem vEq (d : Nat) : Valid ρ Tryz.prog 23 (fnS (spec2 (eqF d))) ∧ Valid ρ Tryz.prog 77 (fnS (spec2 (eqAllF d))) := by
  have all : ∀ d, Valid ρ Tryz.prog 23 (fnS (spec2 (eqF d))) → Valid ρ Tryz.prog 77 (fnS (spec2 (eqAllF d))) := fun d hv => v2 (fo Tryz.func77 fB77) fun a b r h hs => by
    obtain ⟨⟨h1, h2, h3⟩, rfl⟩ := ite_inv h
    exact ref3_EqualAll_run hρ (E := EL [(23, fnS (spec2 (eqF d)))]) rfl (consOk_list (valid_cons hv valid_nil)) rfl h1 h2 h3 hs
  have one : ∀ d, Valid ρ Tryz.prog 23 (fnS (spec2 (eqF d))) := by
    intro d
    induction d with
    | zero =>
      refine v2 (fo Tryz.func23 fB23) fun a b r h hs => ?_
      obtain ⟨⟨h1, h2⟩, rfl⟩ := ite_inv h
      have := Ty.size_eq a
      omega
    | succ d ih =>
      refine v2 (fo Tryz.func23 fB23) fun a b r h hs => ?_
      obtain ⟨⟨h1, h2⟩, rfl⟩ := ite_inv h
      exact ref3_Equal_run hρ (E := EL [(77, fnS (spec2 (eqAllF d)))]) rfl (consOk_list (valid_cons (all d ih) valid_nil)) rfl h1 h2 hs
  exact ⟨one d, all d (one d)⟩
noncomputable def equalS : J.Spec := fnS (spec2 fun a b : Ty => if a.ok = true then some (decide (a = b)) else none)
theorem vEqual : Valid ρ Tryz.prog 23 equalS := v2 (fo Tryz.func23 fB23) fun a b r h hs => by
  obtain ⟨h1, rfl⟩ := ite_inv h
  exact ref3_Equal_run hρ (E := EL [(77, fnS (spec2 (eqAllF a.size)))]) rfl (consOk_list (valid_cons (vEq hρ a.size).2 valid_nil)) rfl h1 (by omega) hs
theorem vReplace (d : Nat) : Valid ρ Tryz.prog 25 (fnS (spec2 (replF d))) := by
  induction d with
  | zero =>
    refine v2 (fo Tryz.func25 fB25) fun a b r h hs => ?_
    obtain ⟨⟨h1, h2, h3⟩, rfl⟩ := ite_inv h
    have := Ty.size_eq a
    omega
  | succ d ih =>
    refine v2 (fo Tryz.func25 fB25) fun a b r h hs => ?_
    obtain ⟨⟨h1, h2, h3⟩, rfl⟩ := ite_inv h
    exact ref3_Replace_run hρ (E := EL [(25, fnS (spec2 (replF d)))]) rfl (consOk_list (valid_cons ih valid_nil)) rfl h1 h2 h3 hs
end
end Go.Proofs.YthfcfmkdeheicaaGreat
