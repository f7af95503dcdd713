import Derived.Test.YtpcmebclpindjaaGreatZC7
set_option linter.all false
/- The contracts of small functions, joined. -/
set_option linter.all false
namespace Go.Proofs.YtpcmebclpindjaaGreat
open Go.J
open Go.J.Enc (enc)
set_option maxRecDepth 100000
set_option maxHeartbeats 1000000
theorem ite_inv {c : Prop} {_ : Decidable c} {α : Type} {x r : α} (h : (if c then some x else none) = some r) : c ∧ x = r := by
  split at h
  · cases h; exact ⟨‹_›, rfl⟩
  · cases h
theorem fo {f : Nat} {fn : Func} {sc : SC} (hf : Tryz.prog.funcs[f]? = some fn) (hb : fn.body.bind stripC = some sc) : FnOk Tryz.prog f := fnOk hf (by
  cases h : fn.body with
  | none => rw [h] at hb; cases hb
  | some c => rfl)
theorem sizes_sub {l : List Ty} {t : Ty} (h : t ∈ l) : t.size ≤ Ty.sizes l := Ty.size_mem h
noncomputable abbrev EL (L : List (Nat × J.Spec)) : Env := envL Tryz.prog pol L
section
variable {ρ : Nat → Value} (hρ : J.Good ρ)
include hρ
noncomputable def modS : J.Spec := fnS (spec2 fun n m : Int => if -1000000 ≤ m ∧ m ≤ 1000000 then some (modI n m) else none)
theorem vMod : Valid ρ Tryz.prog 24 modS := v2 (fo Tryz.func24 BS_make_Mod) fun a b r h hs => by
  obtain ⟨h1, rfl⟩ := ite_inv h
  exact make_Mod_run hρ (E := EL []) rfl (consOk_list valid_nil) (by omega) (by omega) hs
noncomputable def fewS : J.Spec := fnS (spec1 fun l : List Int => some (decide (l.length ≤ 60)))
theorem vFew : Valid ρ Tryz.prog 14 fewS := v1 (fo Tryz.func14 BS_make_Few) fun a r h hs => by
  cases h
  exact make_Few_run hρ (E := EL []) rfl (consOk_list valid_nil) hs
noncomputable def conS : J.Spec := fnS (spec2 fun (n : List Nat) (l : List Ty) => if l.length ≤ 10000 then some (tCon n l) else none)
theorem vCon : Valid ρ Tryz.prog 56 conS := v2 (fo Tryz.func56 BS_ref3_Con) fun a b r h hs => by
  obtain ⟨h1, rfl⟩ := ite_inv h
  exact ref3_Con_run hρ (E := EL []) rfl (consOk_list valid_nil) h1 hs
theorem vInt : Valid ρ Tryz.prog 27 (fnS (spec0 tInt)) := v0 (fo Tryz.func27 BS_ref3_Int) fun hs =>
  ref3_Int_run hρ (E := EL [(56, conS)]) rfl (consOk_list (valid_cons (vCon hρ) valid_nil)) rfl hs
theorem vArrow : Valid ρ Tryz.prog 42 (fnS (spec2 fun a b : Ty => some (tArrow a b))) := v2 (fo Tryz.func42 BS_ref3_Arrow) fun a b r h hs => by
  cases h
  exact ref3_Arrow_run hρ (E := EL [(56, conS)]) rfl (consOk_list (valid_cons (vCon hρ) valid_nil)) rfl hs
theorem vVar : Valid ρ Tryz.prog 26 (fnS (spec1 fun i : Int => some (tVar i))) := v1 (fo Tryz.func26 BS_ref3_Var) fun a r h hs => by
  cases h
  exact ref3_Var_run hρ (E := EL []) rfl (consOk_list valid_nil) hs
theorem vBound : Valid ρ Tryz.prog 53 (fnS (spec1 fun i : Int => some (tBound i))) := v1 (fo Tryz.func53 BS_ref3_Bound) fun a r h hs => by
  cases h
  exact ref3_Bound_run hρ (E := EL []) rfl (consOk_list valid_nil) hs
theorem vRigid : Valid ρ Tryz.prog 28 (fnS (spec2 fun h i : Int => some (tRigid h i))) := v2 (fo Tryz.func28 BS_ref3_Rigid) fun a b r h hs => by
  cases h
  exact ref3_Rigid_run hρ (E := EL []) rfl (consOk_list valid_nil) hs
theorem vNext : Valid ρ Tryz.prog 55 (stS (stF1 nextF)) := s1 (fo Tryz.func55 BS_make_Tape_Next) fun s a q h hs id hid hg => by
  obtain ⟨⟨h1, h2⟩, rfl⟩ := ite_inv h
  exact make_Tape_Next_run hρ (E := EL [(24, modS)]) rfl (consOk_list (valid_cons (vMod hρ) valid_nil)) rfl h1.1 h1.2 h2 hs id hid hg
/-! ### equality -/
theorem vEq (d : Nat) : Valid ρ Tryz.prog 54 (fnS (spec2 (eqF d))) ∧ Valid ρ Tryz.prog 18 (fnS (spec2 (eqAllF d))) := by
  have all : ∀ d, Valid ρ Tryz.prog 54 (fnS (spec2 (eqF d))) → Valid ρ Tryz.prog 18 (fnS (spec2 (eqAllF d))) := fun d hv => v2 (fo Tryz.func18 BS_ref3_EqualAll) fun a b r h hs => by
    obtain ⟨⟨h1, h2, h3⟩, rfl⟩ := ite_inv h
    exact ref3_EqualAll_run hρ (E := EL [(54, fnS (spec2 (eqF d)))]) rfl (consOk_list (valid_cons hv valid_nil)) rfl h1 h2 h3 hs
  have one : ∀ d, Valid ρ Tryz.prog 54 (fnS (spec2 (eqF d))) := by
    intro d
    induction d with
    | zero =>
      refine v2 (fo Tryz.func54 BS_ref3_Equal) fun a b r h hs => ?_
      obtain ⟨⟨h1, h2⟩, rfl⟩ := ite_inv h
      have := Ty.size_eq a
      omega
    | succ d ih =>
      refine v2 (fo Tryz.func54 BS_ref3_Equal) fun a b r h hs => ?_
      obtain ⟨⟨h1, h2⟩, rfl⟩ := ite_inv h
      exact ref3_Equal_run hρ (E := EL [(18, fnS (spec2 (eqAllF d)))]) rfl (consOk_list (valid_cons (all d ih) valid_nil)) rfl h1 h2 hs
  exact ⟨one d, all d (one d)⟩
noncomputable def equalS : J.Spec := fnS (spec2 fun a b : Ty => if a.ok = true then some (decide (a = b)) else none)
theorem vEqual : Valid ρ Tryz.prog 54 equalS := v2 (fo Tryz.func54 BS_ref3_Equal) fun a b r h hs => by
  obtain ⟨h1, rfl⟩ := ite_inv h
  exact ref3_Equal_run hρ (E := EL [(18, fnS (spec2 (eqAllF a.size)))]) rfl (consOk_list (valid_cons (vEq hρ a.size).2 valid_nil)) rfl h1 (by omega) hs
theorem vReplace (d : Nat) : Valid ρ Tryz.prog 62 (fnS (spec2 (replF d))) := by
  induction d with
  | zero =>
    refine v2 (fo Tryz.func62 BS_ref3_Replace) fun a b r h hs => ?_
    obtain ⟨⟨h1, h2, h3⟩, rfl⟩ := ite_inv h
    have := Ty.size_eq a
    omega
  | succ d ih =>
    refine v2 (fo Tryz.func62 BS_ref3_Replace) fun a b r h hs => ?_
    obtain ⟨⟨h1, h2, h3⟩, rfl⟩ := ite_inv h
    exact ref3_Replace_run hρ (E := EL [(62, fnS (spec2 (replF d)))]) rfl (consOk_list (valid_cons ih valid_nil)) rfl h1 h2 h3 hs
theorem vLeaves (d : Nat) : Valid ρ Tryz.prog 125 (ioS 5 (ioF2 (leavesF d)) kOne) := by
  induction d with
  | zero =>
    refine Valid.io (fo Tryz.func125 BS_ref3_leaves) fun es vs r _ _ h0 _ _ _ hs v hv hvac => ?_
    obtain ⟨l, a, b, q, rfl, rfl, h, rfl⟩ := ioF2_inv h0
    obtain ⟨⟨h1, h2, h3⟩, rfl⟩ := ite_inv h
    have := Ty.size_eq a
    omega
  | succ d ih =>
    refine Valid.io (fo Tryz.func125 BS_ref3_leaves) fun es vs r _ _ h0 _ _ _ hs v hv hvac => ?_
    obtain ⟨l, a, b, q, rfl, rfl, h, rfl⟩ := ioF2_inv h0
    obtain ⟨⟨h1, h2, h3, h4⟩, rfl⟩ := ite_inv h
    exact ref3_leaves_run hρ (E := EL [(54, equalS), (125, ioS 5 (ioF2 (leavesF d)) kOne)]) rfl (consOk_list (valid_cons (vEqual hρ) (valid_cons ih valid_nil))) rfl rfl h2 h1 h3 h4 hv hvac
noncomputable def hasS : J.Spec := fnC (spec2 fun (l : List Int) (x : Int) => if l.length ≤ 1000000 then some (decide (x ∈ l)) else none)
theorem vHas : Valid ρ Tryz.prog 126 hasS := c2 (fo Tryz.func126 BS_ref3_Has) fun a b r h hs => by
  obtain ⟨h1, rfl⟩ := ite_inv h
  exact ref3_Has_run hρ (E := EL []) rfl (consOk_list valid_nil) h1 hs
noncomputable def varsS1 (d : Nat) : J.Spec := fnS (spec1 fun l : List Ty => if Ty.oks l = true ∧ l.length ≤ 10000 ∧ Ty.sizes l ≤ d then some (varsM l) else none)
theorem vVars (d : Nat) (hd : d ≤ 10000) : Valid ρ Tryz.prog 61 (varsS1 d) := v1 (fo Tryz.func61 BS_ref3_Vars) fun a r h hs => by
  obtain ⟨⟨h1, h2, h3⟩, rfl⟩ := ite_inv h
  exact ref3_Vars_run hρ (E := EL [(126, hasS), (125, ioS 5 (ioF2 (leavesF d)) kOne)]) rfl (consOk_list (valid_cons (vHas hρ) (valid_cons (vLeaves hρ d) valid_nil))) rfl rfl h1 h2 h3 hd hs
end
end Go.Proofs.YtpcmebclpindjaaGreat
