import Derived.Test.YtpcmebclpindjaaGreatZD2
set_option linter.all false
set_option linter.all false
namespace Go.Proofs.YtpcmebclpindjaaGreat
open Go.J
open Go.J.Enc (enc)
set_option maxRecDepth 100000
set_option maxHeartbeats 1000000
section
variable {ρ : Nat → Value} (hρ : J.Good ρ)
include hρ
section
variable {E : Env} (hE : E.P = Tryz.prog) (hcon : ConsOk ρ E)
include hE hcon
theorem types_Replace_run {d : Nat} (hc : E.con 123 = embS (capM (some 124) (rebF d))) {t : Ty} {s : List Assign} (ht : t.ok = true) (hd : t.size ≤ d) (hsl : s.length ≤ 100000) (hs : HS) : CallOk ρ Tryz.prog 60 [enc t, enc s] hs (enc (t.reb (leafR s))) hs := by
  refine fn hρ hE hcon Tryz.func60 BS_types_Replace rfl (by simp) ?_ hs
  have hF : rebF d s t = some (t.reb (leafR s)) := if_pos ⟨hsl, ht, hd⟩
  simp [S_types_Replace_r0, S_types_Replace_r1, S_types_Replace, hE, hc, hF]
end
theorem vRep1 : Valid ρ Tryz.prog 124 (embS (capM none leafF)) := Valid.emb (fo Tryz.func124 BS_types_Replace_1) fun vs hs D h => by
  obtain ⟨s, a, r, id, hF, rfl, _, hfit⟩ := capM_inv (fun s => by simp) h
  obtain ⟨⟨h1, h2⟩, rfl⟩ := ite_inv hF
  exact types_Replace_1_run hρ (E := EL []) rfl (consOk_list valid_nil) h2 h1 hfit
theorem vRebuild (d : Nat) : Valid ρ Tryz.prog 123 (embS (capM (some 124) (rebF d))) := by
  induction d with
  | zero =>
    refine Valid.emb (fo Tryz.func123 BS_types_rebuild) fun vs hs D h => ?_
    obtain ⟨s, a, r, id, hF, rfl, _, hfit⟩ := capM_inv (fun s => by simp) h
    obtain ⟨⟨h1, h2, h3⟩, rfl⟩ := ite_inv hF
    have := Ty.size_eq a
    omega
  | succ d ih =>
    refine Valid.emb (fo Tryz.func123 BS_types_rebuild) fun vs hs D h => ?_
    obtain ⟨s, a, r, id, hF, rfl, _, hfit⟩ := capM_inv (fun s => by simp) h
    obtain ⟨⟨h1, h2, h3⟩, rfl⟩ := ite_inv hF
    exact types_rebuild_run hρ (E := EL [(124, embS (capM none leafF)), (123, embS (capM (some 124) (rebF d)))]) rfl
      (consOk_list (valid_cons (vRep1 hρ) (valid_cons ih valid_nil))) rfl rfl h2 h3 h1 hfit
noncomputable def replaceS : J.Spec := fnS (spec2 fun (t : Ty) (s : List Assign) => if t.ok = true ∧ s.length ≤ 100000 then some (t.reb (leafR s)) else none)
theorem vTReplace : Valid ρ Tryz.prog 60 replaceS := v2 (fo Tryz.func60 BS_types_Replace) fun a b r h hs => by
  obtain ⟨⟨h1, h2⟩, rfl⟩ := ite_inv h
  exact types_Replace_run hρ (E := EL [(123, embS (capM (some 124) (rebF a.size)))]) rfl (consOk_list (valid_cons (vRebuild hρ a.size) valid_nil)) rfl h1 (Nat.le_refl _) h2 hs
theorem vTVar : Valid ρ Tryz.prog 59 (fnS (spec1 fun i : Int => some (tVar i))) := v1 (fo Tryz.func59 BS_types_Var) fun a r h hs => by
  cases h
  have hE : (EL []).P = Tryz.prog := rfl
  refine fn hρ hE (consOk_list valid_nil) Tryz.func59 BS_types_Var rfl (by simp) ?_ hs
  simp [S_types_Var_r0, S_types_Var_r1, S_types_Var, hE, tVar]
end
end Go.Proofs.YtpcmebclpindjaaGreat
