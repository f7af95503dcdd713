import Derived.Test.YthfcfmkdeheicaaPW1
set_option linter.all false
/- The contracts of the functions on stores, joined. -/
set_option linter.all false
namespace Go.Proofs.Ythfcfmkdeheicaa
open Go.J
open Go.J.Enc (enc)
set_option maxRecDepth 100000
set_option maxHeartbeats 1000000
theorem args_le (l : List Ty) : l.length ≤ Ty.sizes l := by
  induction l with
  | nil => exact Nat.le_refl _
  | cons t l ih => have := Ty.size_pos t; simp only [Ty.sizes, List.length_cons]; omega
section
variable {ρ : Nat → Value} (hρ : J.Good ρ)
include hρ
/-! ### words and types -/
theorem vRLower : Valid ρ Try.prog 110 (fnS (spec1 fun c : Byte => some (lowerB c.n))) := v1 (fo Try.func110 BS_ref2_lower) fun a r h hs => by
  cases h; exact ref2_lower_run hρ (E := EL []) rfl (consOk_list valid_nil) hs
theorem vRUpper : Valid ρ Try.prog 112 (fnS (spec1 fun c : Byte => some (upperB c.n))) := v1 (fo Try.func112 BS_ref2_upper) fun a r h hs => by
  cases h; exact ref2_upper_run hρ (E := EL []) rfl (consOk_list valid_nil) hs
theorem vRDigit : Valid ρ Try.prog 149 (fnS (spec1 fun c : Byte => some (digitB c.n))) := v1 (fo Try.func149 BS_ref2_digit) fun a r h hs => by
  cases h; exact ref2_digit_run hρ (E := EL []) rfl (consOk_list valid_nil) hs
theorem vRInner : Valid ρ Try.prog 130 (fnS (spec1 fun c : Byte => some (innerB c.n))) := v1 (fo Try.func130 BS_ref2_inner) fun a r h hs => by
  cases h
  exact ref2_inner_run hρ (E := EL [(110, fnS (spec1 fun c : Byte => some (lowerB c.n))), (112, fnS (spec1 fun c : Byte => some (upperB c.n))), (149, fnS (spec1 fun c : Byte => some (digitB c.n)))]) rfl
    (consOk_list (valid_cons (vRLower hρ) (valid_cons (vRUpper hρ) (valid_cons (vRDigit hρ) valid_nil)))) rfl rfl rfl hs
noncomputable def wordS : J.Spec := fnS (spec1 fun s : List Nat => if s.length < 2^63 then some (wordN s) else none)
theorem vRWord : Valid ρ Try.prog 109 wordS := v1 (fo Try.func109 BS_ref2_word) fun a r h hs => by
  obtain ⟨h1, rfl⟩ := ite_inv h
  exact ref2_word_run hρ (E := EL [(130, fnS (spec1 fun c : Byte => some (innerB c.n)))]) rfl (consOk_list (valid_cons (vRInner hρ) valid_nil)) rfl h1 hs
theorem vRKeyword : Valid ρ Try.prog 111 (fnS (spec1 fun s : List Nat => some (decide (s ∈ keywords)))) := v1 (fo Try.func111 BS_ref2_Keyword) fun a r h hs => by
  cases h; exact ref2_Keyword_run hρ (E := EL []) rfl (consOk_list valid_nil) hs
noncomputable def lowerS : J.Spec := fnS (spec1 fun s : List Nat => if s.length < 2^63 then some (lowerN s) else none)
theorem vRLowerW : Valid ρ Try.prog 91 lowerS := v1 (fo Try.func91 BS_ref2_Lower) fun a r h hs => by
  obtain ⟨h1, rfl⟩ := ite_inv h
  exact ref2_Lower_run hρ (E := EL [(109, wordS), (110, fnS (spec1 fun c : Byte => some (lowerB c.n))), (111, fnS (spec1 fun s : List Nat => some (decide (s ∈ keywords))))]) rfl
    (consOk_list (valid_cons (vRWord hρ) (valid_cons (vRLower hρ) (valid_cons (vRKeyword hρ) valid_nil)))) rfl rfl rfl h1 hs
noncomputable def upperS : J.Spec := fnS (spec1 fun s : List Nat => if s.length < 2^63 then some (upperN s) else none)
theorem vRUpperW : Valid ρ Try.prog 92 upperS := v1 (fo Try.func92 BS_ref2_Upper) fun a r h hs => by
  obtain ⟨h1, rfl⟩ := ite_inv h
  exact ref2_Upper_run hρ (E := EL [(109, wordS), (112, fnS (spec1 fun c : Byte => some (upperB c.n)))]) rfl (consOk_list (valid_cons (vRWord hρ) (valid_cons (vRUpper hρ) valid_nil))) rfl rfl h1 hs
noncomputable def rvalidS (d : Nat) : J.Spec := fnS (spec1 fun t : Ty => if t.size ≤ d ∧ t.short = true then some t.valid else none)
theorem vRValid (d : Nat) (hd : d ≤ 1000000) : Valid ρ Try.prog 57 (rvalidS d) := by
  induction d with
  | zero =>
    refine v1 (fo Try.func57 BS_ref3_Valid) fun a r h hs => ?_
    obtain ⟨⟨h1, h2⟩, rfl⟩ := ite_inv h
    have := Ty.size_eq a
    omega
  | succ d ih =>
    refine v1 (fo Try.func57 BS_ref3_Valid) fun a r h hs => ?_
    obtain ⟨⟨h1, h2⟩, rfl⟩ := ite_inv h
    refine ref3_Valid_run hρ (E := EL [(57, rvalidS d), (91, lowerS), (92, upperS)]) rfl (consOk_list (valid_cons (ih (by omega)) (valid_cons (vRLowerW hρ) (valid_cons (vRUpperW hρ) valid_nil)))) rfl rfl rfl h1 ?_ h2 hs
    have := Ty.size_eq a
    have := args_le a.args
    omega
noncomputable def typesS (d : Nat) : J.Spec := fnS (spec2 fun (t : Ty) (n : Int) => if t.size ≤ d ∧ -1000000 ≤ n ∧ n ≤ 1000000 then some (max (n - t.size) 0) else none)
theorem vMTypes (d : Nat) : Valid ρ Try.prog 56 (typesS d) := by
  induction d with
  | zero =>
    refine v2 (fo Try.func56 BS_make_types) fun a b r h hs => ?_
    obtain ⟨⟨h1, h2⟩, rfl⟩ := ite_inv h
    have := Ty.size_eq a
    omega
  | succ d ih =>
    refine v2 (fo Try.func56 BS_make_types) fun a b r h hs => ?_
    obtain ⟨⟨h1, h2, h3⟩, rfl⟩ := ite_inv h
    exact make_types_run hρ (E := EL [(56, typesS d)]) rfl (consOk_list (valid_cons ih valid_nil)) rfl h1 h2 h3 hs
noncomputable def smallTyS : J.Spec := fnS (spec2 fun (t : Ty) (n : Int) => if -1000000 ≤ n ∧ n ≤ 999999 then some (decide ((t.size : Int) ≤ n)) else none)
theorem vSmallType : Valid ρ Try.prog 12 smallTyS := v2 (fo Try.func12 BS_make_SmallType) fun a b r h hs => by
  obtain ⟨⟨h1, h2⟩, rfl⟩ := ite_inv h
  exact make_SmallType_run hρ (E := EL [(56, typesS a.size)]) rfl (consOk_list (valid_cons (vMTypes hρ a.size) valid_nil)) rfl (Nat.le_refl _) h1 h2 hs
/-! ### stores -/
noncomputable def sameSlotS : J.Spec := fnS (spec2 fun a b : Slot => if a.type.ok = true then some (decide (a = b)) else none)
theorem vSameSlot : Valid ρ Try.prog 64 sameSlotS := v2 (fo Try.func64 BS_law16_sameSlot) fun a b r h hs => by
  obtain ⟨h1, rfl⟩ := ite_inv h
  exact law16_sameSlot_run hρ (E := EL [(19, equalS)]) rfl (consOk_list (valid_cons (vEqual hρ) valid_nil)) rfl h1 hs
noncomputable def sameF (a b : Store) : Option Bool := if a.slots.length ≤ 1000000 ∧ (∀ x ∈ a.slots, x.type.ok = true) ∧ a.trail.length ≤ 1000000 ∧ (∀ x ∈ a.trail, x.old.type.ok = true) then some (decide (a = b)) else none
noncomputable def same16S : J.Spec := fnS (spec2 sameF)
theorem vSame16 : Valid ρ Try.prog 18 same16S := v2 (fo Try.func18 BS_law16_same) fun a b r h hs => by
  obtain ⟨⟨h1, h2, h3, h4⟩, rfl⟩ := ite_inv h
  exact law16_same_run hρ (E := EL [(64, sameSlotS)]) rfl (consOk_list (valid_cons (vSameSlot hρ) valid_nil)) rfl h1 h2 h3 h4 hs
end
end Go.Proofs.Ythfcfmkdeheicaa
