import Derived.Test.YthfcfmkdeheicaaPW1
set_option linter.all false
/- The contracts of the functions on stores, joined. -/
set_option linter.all false
namespace Go.Proofs.Ythfcfmkdeheicaa
open Go.J
open Go.J.Enc (enc)
set_option maxRecDepth 100000
set_option maxHeartbeats 1000000
section
variable {ρ : Nat → Value} (hρ : J.Good ρ)
include hρ
/-! ### words and types -/
/-! ### stores -/
noncomputable def sameSlotS : J.Spec := fnS (spec2 fun a b : Slot => if a.type.ok = true then some (decide (a = b)) else none)
theorem vSameSlot : Valid ρ Try.prog 64 sameSlotS := v2 (fo Try.func64 BS_law16_sameSlot) fun a b r h hs => by
  obtain ⟨h1, rfl⟩ := ite_inv h
  exact law16_sameSlot_run hρ (E := EL [(19, equalS)]) rfl (consOk_list (valid_cons (vEqual hρ) valid_nil)) rfl h1 hs
noncomputable def sameF (a b : Store) : Option Bool := if a.slots.length ≤ 1000000 ∧ (∀ x ∈ a.slots, x.type.ok = true) ∧ a.trail.length ≤ 1000000 ∧ (∀ x ∈ a.trail, x.old.type.ok = true) then some (decide (a = b)) else none
noncomputable def same16S : J.Spec := fnS (spec2 sameF)
theorem vSame16 : Valid ρ Try.prog 18 same16S := v2 (fo Try.func18 BS_law16_same) fun a b r h hs => by
  obtain ⟨⟨h1, h2, h3, h4⟩, rfl⟩ := ite_inv h
  exact law16_same_run hρ (E := EL [(64, sameSlotS)]) rfl (consOk_list (valid_cons (vSameSlot hρ) valid_nil)) rfl h1 h2 h3 h4 hs
theorem vHas16 : Valid ρ Try.prog 66 (fnC (spec2 fun (s : Store) (i : Int) => some (s.slot? i).isSome)) := c2 (fo Try.func66 BS_store_has) fun a b r h hs => by
  cases h; exact store_has_run hρ (E := EL []) rfl (consOk_list valid_nil) hs
theorem vClipSlot : Valid ρ Try.prog 69 (fnS (spec1 fun l : List Slot => some l)) := v1 (fo Try.func69 BS_slices_Clip__api_Slotapi_Slot) fun a r h hs => by
  cases h; exact slices_ClipSlot_run hρ (E := EL []) rfl (consOk_list valid_nil) hs
theorem vClipChange : Valid ρ Try.prog 70 (fnS (spec1 fun l : List Change => some l)) := v1 (fo Try.func70 BS_slices_Clip__api_Changeapi_Change) fun a r h hs => by
  cases h; exact slices_ClipChange_run hρ (E := EL []) rfl (consOk_list valid_nil) hs
theorem vBackChange : Valid ρ Try.prog 68 (embS (backM 95)) := Valid.emb (fo Try.func68 BS_slices_Backward__api_Changeapi_Change) fun vs hs D h => by
  obtain ⟨es, tg, rfl, _, hfit⟩ := backM_inv h
  exact slices_BackChange_run hρ (E := EL []) rfl (consOk_list valid_nil) hfit
noncomputable def rollS : J.Spec := fnS (spec2 fun (s : Store) (m : Int) => if s.small then some (rollM s m) else none)
theorem vRollback : Valid ρ Try.prog 27 rollS := v2 (fo Try.func27 BS_store_Rollback) fun a b r h hs => by
  obtain ⟨h1, rfl⟩ := ite_inv h
  exact store_Rollback_run hρ (E := EL [(69, fnS (spec1 fun l : List Slot => some l)), (70, fnS (spec1 fun l : List Change => some l)), (68, embS (backM 95)), (66, fnC (spec2 fun (s : Store) (i : Int) => some (s.slot? i).isSome))]) rfl
    (consOk_list (valid_cons (vClipSlot hρ) (valid_cons (vClipChange hρ) (valid_cons (vBackChange hρ) (valid_cons (vHas16 hρ) valid_nil))))) rfl rfl rfl rfl h1 hs
end
end Go.Proofs.Ythfcfmkdeheicaa
