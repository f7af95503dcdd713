import Derived.Test.YthfcfmkdeheicaaPB24
set_option linter.all false
/- The contracts that the laws on stores use, joined. -/
set_option linter.all false
namespace Go.Proofs.Ythfcfmkdeheicaa
open Go.J
open Go.J.Enc (enc)
set_option maxRecDepth 100000
set_option maxHeartbeats 1000000
section
variable {ρ : Nat → Value} (hρ : J.Good ρ)
include hρ
theorem vTop17 (S : Nat) (hS : 1 ≤ S) : Valid ρ Try.prog 60 (fnS (spec3 (Store.topF S))) := v3 (fo Try.func60 BS_ref17_Unify) fun a b c r h hs => by
  obtain ⟨h1, rfl⟩ := ite_inv h
  exact ref17_Unify_run hρ (E := EL [(93, fnS (spec3 (Store.uF S 300000)))]) rfl (consOk_list (valid_cons (vunify17 hρ S 300000 hS) valid_nil)) rfl h1 hs
theorem vTapeStore : Valid ρ Try.prog 14 (stS (stF1 storeF)) := s1 (fo Try.func14 BS_make_Tape_Store) fun s a q h hs id hid hg => by
  obtain ⟨⟨h1, h2, h3⟩, rfl⟩ := ite_inv h
  exact make_Tape_Store_run hρ (E := EL [(21, fnS (spec0 (⟨[], []⟩ : Store))), (58, stS (stF1 nextF)), (17, freshS), (32, mkVarsS), (31, stS (stF3 (typeF 1))), (59, fnS (spec2 fun h i : Int => some (tRigid h i))), (60, fnS (spec3 (Store.topF 7)))]) rfl
    (consOk_list (valid_cons (vNew16 hρ) (valid_cons (vNext hρ) (valid_cons (vFresh16 hρ) (valid_cons (vMkVars hρ) (valid_cons (vType hρ 1 (by omega)) (valid_cons (vRigid hρ) (valid_cons (vTop17 hρ 7 (by omega)) valid_nil)))))))) rfl rfl rfl rfl rfl rfl rfl h1 h2 h3 hs id hid hg
theorem vSHas : Valid ρ Try.prog 66 (fnS (spec2 fun (s : Store) (i : Int) => some (s.slot? i).isSome)) := v2 (fo Try.func66 BS_store_has) fun a b r h hs => by
  cases h; exact store_has_run hρ (E := EL []) rfl (consOk_list valid_nil) hs
end
end Go.Proofs.Ythfcfmkdeheicaa
