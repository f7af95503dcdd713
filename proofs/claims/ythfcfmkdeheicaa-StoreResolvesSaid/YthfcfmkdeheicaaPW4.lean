import Derived.Test.YthfcfmkdeheicaaPW3
import Derived.Test.YthfcfmkdeheicaaJP
set_option linter.all false
/- The contracts of unification in a store, joined. -/
set_option linter.all false
namespace Go.Proofs.Ythfcfmkdeheicaa
open Go.J
open Go.J.Enc (enc)
set_option maxRecDepth 100000
set_option maxHeartbeats 1000000
section
variable {ρ : Nat → Value} (hρ : J.Good ρ)
include hρ
theorem vNew16 : Valid ρ Try.prog 21 (fnS (spec0 (⟨[], []⟩ : Store))) := v0 (fo Try.func21 BS_ref16_New) fun hs => ref16_New_run hρ (E := EL []) rfl (consOk_list valid_nil) hs
noncomputable def freshS : J.Spec := fnS (spec3 fun (s : Store) (h : Int) (b : Bool) => if s.small then some (s.fresh h b) else none)
theorem vFresh16 : Valid ρ Try.prog 17 freshS := v3 (fo Try.func17 BS_ref16_Fresh) fun a b c r h hs => by
  obtain ⟨h1, rfl⟩ := ite_inv h
  exact ref16_Fresh_run hρ (E := EL [(55, fnS (spec1 fun i : Int => some (tVar i)))]) rfl (consOk_list (valid_cons (vVar hρ) valid_nil)) rfl h1 hs
noncomputable def setS : J.Spec := fnS (spec3 fun (s : Store) (i : Int) (x : Slot) => if s.small then some (s.set i x) else none)
theorem vSet16 : Valid ρ Try.prog 24 setS := v3 (fo Try.func24 BS_ref16_Set) fun a b c r h hs => by
  obtain ⟨h1, rfl⟩ := ite_inv h
  exact ref16_Set_run hρ (E := EL []) rfl (consOk_list valid_nil) h1 hs
theorem vBound16 : Valid ρ Try.prog 76 (fnS (spec2 fun (s : Store) (t : Ty) => some (s.bound t))) := v2 (fo Try.func76 BS_ref16_bound) fun a b r h hs => by
  cases h; exact ref16_bound_run hρ (E := EL []) rfl (consOk_list valid_nil) hs
noncomputable def walk16S : J.Spec := fnS (spec2 fun (s : Store) (t : Ty) => if s.slots.length ≤ 1000000 then some (s.w16 t) else none)
theorem vWalk16 : Valid ρ Try.prog 37 walk16S := v2 (fo Try.func37 BS_ref16_Walk) fun a b r h hs => by
  obtain ⟨h1, rfl⟩ := ite_inv h
  exact ref16_Walk_run hρ (E := EL [(76, fnS (spec2 fun (s : Store) (t : Ty) => some (s.bound t)))]) rfl (consOk_list (valid_cons (vBound16 hρ) valid_nil)) rfl h1 hs
theorem vsz16 (d : Nat) (hd : d ≤ 1000000) : Valid ρ Try.prog 77 (fnS (spec3 (szF d))) := by
  induction d with
  | zero =>
    refine v3 (fo Try.func77 BS_ref16_size) fun a b c r h hs => ?_
    obtain ⟨⟨_, _, h1, h2⟩, rfl⟩ := ite_inv h
    omega
  | succ d ih =>
    refine v3 (fo Try.func77 BS_ref16_size) fun a b c r h hs => ?_
    obtain ⟨⟨h1, h2, h3, h4⟩, rfl⟩ := ite_inv h
    obtain ⟨m, rfl⟩ := Int.eq_ofNat_of_zero_le h3
    exact ref16_size_run hρ (E := EL [(77, fnS (spec3 (szF d))), (37, walk16S)]) rfl (consOk_list (valid_cons (ih (by omega)) (valid_cons (vWalk16 hρ) valid_nil))) rfl (by omega) rfl h1 h2 (by omega) hs
noncomputable def size16S : J.Spec := fnS (spec3 fun (s : Store) (t : Ty) (m : Int) => if s.tysOk ∧ t.ok = true ∧ m < 1000000 then some ((sz s.w16 t (max m 0).toNat : Nat) : Int) else none)
theorem vSize16 : Valid ρ Try.prog 39 size16S := v3 (fo Try.func39 BS_ref16_Size) fun a b c r h hs => by
  obtain ⟨⟨h1, h2, h3⟩, rfl⟩ := ite_inv h
  exact ref16_Size_run hρ (E := EL [(77, fnS (spec3 (szF 1000000)))]) rfl (consOk_list (valid_cons (vsz16 hρ 1000000 (by omega)) valid_nil)) rfl h1 h2 h3 hs
theorem vres16 (d : Nat) (hd : d ≤ 10000) : Valid ρ Try.prog 74 (fnS (spec2 (resF d))) := by
  induction d with
  | zero =>
    refine v2 (fo Try.func74 BS_ref16_resolve) fun a b r h hs => ?_
    obtain ⟨⟨_, _, h1⟩, rfl⟩ := ite_inv h
    obtain ⟨q, _, hq⟩ := sz_fits.1 h1
    have := Ty.size_pos q
    omega
  | succ d ih =>
    exact v2 (fo Try.func74 BS_ref16_resolve) fun a b r h hs =>
      ref16_resolve_run hρ (E := EL [(74, fnS (spec2 (resF d))), (37, walk16S)]) rfl (consOk_list (valid_cons (ih (by omega)) (valid_cons (vWalk16 hρ) valid_nil))) rfl (by omega) rfl h hs
noncomputable def resolve16S : J.Spec := fnS (spec2 fun (s : Store) (t : Ty) => if s.tysOk ∧ t.ok = true then some (resolveM s.w16 t) else none)
theorem vResolve16 : Valid ρ Try.prog 35 resolve16S := v2 (fo Try.func35 BS_ref16_Resolve) fun a b r h hs => by
  obtain ⟨⟨h1, h2⟩, rfl⟩ := ite_inv h
  exact ref16_Resolve_run hρ (E := EL [(39, size16S), (74, fnS (spec2 (resF 4000)))]) rfl (consOk_list (valid_cons (vSize16 hρ) (valid_cons (vres16 hρ 4000 (by omega)) valid_nil))) rfl rfl h1 h2 hs
theorem vvis16 (d : Nat) : Valid ρ Try.prog 79 (embS (visM (visF d))) := by
  induction d with
  | zero =>
    refine Valid.emb (fo Try.func79 BS_ref16_finder_visit) fun vs hs D h => ?_
    obtain ⟨s, out, done, t, R, id, rd, ro, hR, rfl, _, _, _, hfit⟩ := visM_inv h
    obtain ⟨⟨_, _, _, _, h1⟩, _⟩ := ite_inv hR
    have := Ty.size_pos t
    omega
  | succ d ih =>
    refine Valid.emb (fo Try.func79 BS_ref16_finder_visit) fun vs hs D h => ?_
    obtain ⟨s, out, done, t, R, id, rd, ro, hR, rfl, _, _, _, hfit⟩ := visM_inv h
    exact ref16_finder_visit_run hρ (E := EL [(79, embS (visM (visF d))), (76, fnS (spec2 fun (s : Store) (t : Ty) => some (s.bound t))), (47, hasS)]) rfl (consOk_list (valid_cons ih (valid_cons (vBound16 hρ) (valid_cons (vHas hρ) valid_nil)))) rfl rfl rfl hR hfit
noncomputable def vars16S : J.Spec := fnS (spec2 fun (s : Store) (l : List Ty) => if varsOk s l then some (varsS s l) else none)
theorem vVars16 : Valid ρ Try.prog 41 vars16S := v2 (fo Try.func41 BS_ref16_Vars) fun a b r h hs => by
  obtain ⟨h1, rfl⟩ := ite_inv h
  exact ref16_Vars_run hρ (E := EL [(79, embS (visM (visF 100000)))]) rfl (consOk_list (valid_cons (vvis16 hρ 100000) valid_nil)) rfl h1 hs
theorem vIsArrow : Valid ρ Try.prog 131 (fnS (spec1 fun t : Ty => some (isArrow t))) := v1 (fo Try.func131 BS_ref3_IsArrow) fun a r h hs => by
  cases h; exact ref3_IsArrow_run hρ (E := EL []) rfl (consOk_list valid_nil) hs
noncomputable def rigidsS : J.Spec := fnS (spec1 fun l : List Ty => if Ty.oks l = true ∧ l.length ≤ 10000 ∧ Ty.sizes l ≤ 10000 then some (rigidsM l) else none)
theorem vRigids : Valid ρ Try.prog 132 rigidsS := v1 (fo Try.func132 BS_ref3_Rigids) fun a r h hs => by
  obtain ⟨⟨h1, h2, h3⟩, rfl⟩ := ite_inv h
  exact ref3_Rigids_run hρ (E := EL [(85, ioS 5 (ioF2 (leavesF 10000)) kOne)]) rfl (consOk_list (valid_cons (vLeaves hρ 10000) valid_nil)) rfl h1 h2 h3 (by omega) hs
theorem vSlot17 : Valid ρ Try.prog 113 (fnS (spec2 fun (s : Store) (t : Ty) => some (s.isSlot t))) := v2 (fo Try.func113 BS_ref17_slot) fun a b r h hs => by
  cases h; exact ref17_slot_run hρ (E := EL []) rfl (consOk_list valid_nil) hs
noncomputable def join17S : J.Spec := fnS (spec3 fun (s : Store) (x y : Ty) => if s.slots.length ≤ 1000 ∧ s.trail.length ≤ 990 ∧ s.isSlot x = true ∧ s.isSlot y = true then some (s.join x.id y.id) else none)
theorem vJoin17 : Valid ρ Try.prog 114 join17S := v3 (fo Try.func114 BS_ref17_join) fun a b c r h hs => by
  obtain ⟨⟨h1, h2, h3, h4⟩, rfl⟩ := ite_inv h
  exact ref17_join_run hρ (E := EL [(24, setS), (55, fnS (spec1 fun i : Int => some (tVar i)))]) rfl (consOk_list (valid_cons (vSet16 hρ) (valid_cons (vVar hρ) valid_nil))) rfl rfl ⟨h1, h2⟩ h3 h4 hs
theorem vBind17 : Valid ρ Try.prog 115 (fnS (spec3 Store.bindF)) := v3 (fo Try.func115 BS_ref17_bind) fun a b c r h hs => by
  obtain ⟨⟨h1, h2, ⟨h3, h4, h5, h6⟩, h7⟩, rfl⟩ := ite_inv h
  exact ref17_bind_run hρ (E := EL [(24, setS), (41, vars16S), (47, hasS), (131, fnS (spec1 fun t : Ty => some (isArrow t))), (35, resolve16S), (132, rigidsS)]) rfl
    (consOk_list (valid_cons (vSet16 hρ) (valid_cons (vVars16 hρ) (valid_cons (vHas hρ) (valid_cons (vIsArrow hρ) (valid_cons (vResolve16 hρ) (valid_cons (vRigids hρ) valid_nil))))))) rfl rfl rfl rfl rfl rfl h1 h2 h3 h4 h5 h7 h6 hs
theorem vunify17 (S d : Nat) (hS : 1 ≤ S) : Valid ρ Try.prog 93 (fnS (spec3 (Store.uF S d))) := by
  induction d with
  | zero =>
    refine v3 (fo Try.func93 BS_ref17_unify) fun a b c r h hs => ?_
    obtain ⟨⟨_, _, _, h1⟩, _⟩ := ite_inv h
    omega
  | succ d ih =>
    refine v3 (fo Try.func93 BS_ref17_unify) fun a b c r h hs => ?_
    obtain ⟨rfl, h1, h2, h3⟩ := Store.uF_run hS h
    exact ref17_unify_run hρ (E := EL [(93, fnS (spec3 (Store.uF S d))), (39, size16S), (37, walk16S), (113, fnS (spec2 fun (s : Store) (t : Ty) => some (s.isSlot t))), (114, join17S), (115, fnS (spec3 Store.bindF))]) rfl
      (consOk_list (valid_cons ih (valid_cons (vSize16 hρ) (valid_cons (vWalk16 hρ) (valid_cons (vSlot17 hρ) (valid_cons (vJoin17 hρ) (valid_cons (vBind17 hρ) valid_nil))))))) rfl rfl rfl rfl rfl rfl h3.tys h3.trail h1 h2 h3.left h3.right (fun a _ _ _ => h3.calls a) hs
end
end Go.Proofs.Ythfcfmkdeheicaa
