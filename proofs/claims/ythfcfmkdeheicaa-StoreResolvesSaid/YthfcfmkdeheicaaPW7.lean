import Derived.Test.YthfcfmkdeheicaaPW5
import Derived.Test.YthfcfmkdeheicaaJP
set_option linter.all false
/- Walking, measuring and resolving in a store: the contracts joined. -/
set_option linter.all false
namespace Go.Proofs.Ythfcfmkdeheicaa
open Go.J
open Go.J.Enc (enc)
set_option maxRecDepth 100000
set_option maxHeartbeats 1000000
section
variable {ρ : Nat → Value} (hρ : J.Good ρ)
include hρ
theorem vSBound : Valid ρ Try.prog 75 (fnS (spec2 fun (s : Store) (t : Ty) => some (s.bound t))) := v2 (fo Try.func75 BS_store_bound) fun a b r h hs => by
  cases h; exact store_bound_run hρ (E := EL [(66, fnS (spec2 fun (s : Store) (i : Int) => some (s.slot? i).isSome))]) rfl (consOk_list (valid_cons (vSHas hρ) valid_nil)) rfl hs
noncomputable def walkS : J.Spec := fnS (spec2 fun (s : Store) (t : Ty) => if s.slots.length ≤ 1000000 then some (s.w t) else none)
theorem vSWalk : Valid ρ Try.prog 36 walkS := v2 (fo Try.func36 BS_store_Walk) fun a b r h hs => by
  obtain ⟨h1, rfl⟩ := ite_inv h
  exact store_Walk_run hρ (E := EL [(75, fnS (spec2 fun (s : Store) (t : Ty) => some (s.bound t)))]) rfl (consOk_list (valid_cons (vSBound hρ) valid_nil)) rfl h1 hs
theorem size_call {d : Nat} (hd : d ≤ 1000000) {S : J.Spec} (hv : Valid ρ Try.prog 38 S) (hS : S = fnS (spec3 (szG d))) {s : Store} {t : Ty} {m : Int} (h1 : s.tysOk) (h2 : t.ok = true) (h3 : m < d + 1) (hs : HS) :
    CallOk ρ Try.prog 38 [enc s, enc t, enc m] hs (enc ((sz s.w t (max m 0).toNat : Nat) : Int)) hs := by
  subst hS
  exact store_Size_run hρ (E := EL [(38, fnS (spec3 (szG d))), (36, walkS)]) rfl (consOk_list (valid_cons hv (valid_cons (vSWalk hρ) valid_nil))) rfl hd rfl h1 h2 h3 hs
theorem vSSize (d : Nat) (hd : d ≤ 1000000) : Valid ρ Try.prog 38 (fnS (spec3 (szG d))) := by
  induction d with
  | zero =>
    refine v3 (fo Try.func38 BS_store_Size) fun a b c r h hs => ?_
    obtain ⟨⟨h1, h2, h3, h4⟩, rfl⟩ := ite_inv h
    omega
  | succ d ih =>
    refine v3 (fo Try.func38 BS_store_Size) fun a b c r h hs => ?_
    obtain ⟨⟨h1, h2, h3, h4⟩, rfl⟩ := ite_inv h
    exact size_call hρ (by omega) (ih (by omega)) rfl h1 h2 (by omega) hs
noncomputable def sizeS : J.Spec := fnS (spec3 fun (s : Store) (t : Ty) (m : Int) => if s.tysOk ∧ t.ok = true ∧ m < 1000000 then some ((sz s.w t (max m 0).toNat : Nat) : Int) else none)
theorem vSSizeA : Valid ρ Try.prog 38 sizeS := v3 (fo Try.func38 BS_store_Size) fun a b c r h hs => by
  obtain ⟨⟨h1, h2, h3⟩, rfl⟩ := ite_inv h
  exact size_call hρ (Nat.le_refl _) (vSSize hρ 1000000 (Nat.le_refl _)) rfl h1 h2 (by omega) hs
theorem vSres (d : Nat) (hd : d ≤ 10000) : Valid ρ Try.prog 73 (fnS (spec2 (resG d))) := by
  induction d with
  | zero =>
    refine v2 (fo Try.func73 BS_store_resolve) fun a b r h hs => ?_
    obtain ⟨⟨_, _, h1⟩, rfl⟩ := ite_inv h
    obtain ⟨q, _, hq⟩ := sz_fits.1 h1
    have := Ty.size_pos q
    omega
  | succ d ih =>
    exact v2 (fo Try.func73 BS_store_resolve) fun a b r h hs =>
      store_resolve_run hρ (E := EL [(73, fnS (spec2 (resG d))), (36, walkS)]) rfl (consOk_list (valid_cons (ih (by omega)) (valid_cons (vSWalk hρ) valid_nil))) rfl (by omega) rfl h hs
noncomputable def resolveS : J.Spec := fnS (spec2 fun (s : Store) (t : Ty) => if s.tysOk ∧ t.ok = true then some (resolveM s.w t) else none)
theorem vSResolve : Valid ρ Try.prog 34 resolveS := v2 (fo Try.func34 BS_store_Resolve) fun a b r h hs => by
  obtain ⟨⟨h1, h2⟩, rfl⟩ := ite_inv h
  exact store_Resolve_run hρ (E := EL [(38, fnS (spec3 (szG 1000000))), (73, fnS (spec2 (resG 4000)))]) rfl (consOk_list (valid_cons (vSSize hρ 1000000 (Nat.le_refl _)) (valid_cons (vSres hρ 4000 (by omega)) valid_nil))) rfl rfl h1 h2 hs
end
end Go.Proofs.Ythfcfmkdeheicaa
