import Derived.Test.YthfcfmkdeheicaaGreatGM4
set_option linter.all false
set_option linter.all false
namespace Go.Proofs.YthfcfmkdeheicaaGreat
open Go.J
open Go.J.Enc (enc)
set_option maxRecDepth 100000
set_option maxHeartbeats 1000000
noncomputable def clipNS : J.Spec := fun vs hs => match vs with
  | [.snil] => some (.snil, hs)
  | _ => none
@[simp] theorem clipNS_ok {hs : HS} {Q : V × HS → Prop} : okT (clipNS [.snil] hs) Q = Q (.snil, hs) := by
  show ok (some (V.snil, hs)) Q = _
  rw [ok_some]
noncomputable def matchTopF (p t : Ty) (L : List Assign) : Option (List Assign × Bool) := if L = [] ∧ p.vplain = true ∧ p.ok = true ∧ t.ok = true ∧ p.size ≤ 10000 then some (if (mtM p t []).2 = true then ((mtM p t []).1, true) else ([], false)) else none
noncomputable def leqF (a b : Ty) : Option Bool := if b.vplain = true ∧ b.ok = true ∧ a.ok = true ∧ b.size ≤ 10000 then some (leqM a b) else none
section
variable {ρ : Nat → Value} (hρ : J.Good ρ)
include hρ
section
variable {E : Env} (hE : E.P = Tryz.prog) (hcon : ConsOk ρ E)
include hE hcon
theorem lattice_Match_run (hc : E.con 123 = rwS 6 true (rwF (matchF 10000))) (hcl : E.con 124 = clipNS) {p t : Ty} (hp : p.vplain = true) (hpo : p.ok = true) (hto : t.ok = true) (hd : p.size ≤ 10000)
    {hs : HS} {v : V} {b : Bool} {R : List Assign} (hres : (if (mtM p t []).2 = true then ((mtM p t []).1, true) else ([], false)) = (R, b)) (hv : rowOf 6 hs v = some (([] : List Assign).map encAssign)) (hvac : hs.H.get hs.n = none) :
    CallOk ρ Tryz.prog 79 [enc p, enc t, v] hs (rwK true (rowTo 6 v (([] : List Assign).map encAssign) (R.map encAssign) hs).1 (enc b)) (rowTo 6 v (([] : List Assign).map encAssign) (R.map encAssign) hs).2 := by
  rw [← hE]
  refine rw_run (KK := fun v hs => GivesL (if ([] : List Assign).map encAssign = [] then 0 else 1) (rwK true (oV 0 (R.map encAssign)) (enc b)) (oH 0 6 (R.map encAssign)) v hs) hρ hcon (by rw [hE]; exact follows) (by rw [hE]; exact named) (by rw [hE]; exact Tryz.func79) fB79 rfl (enc_pure1 _) (enc_pure1 _) (by simp) (by simp) (by rfl) (by simp) ?_ (fun _ _ h => .inl h) hv hvac
  clear hv hvac
  have hF : matchF 10000 p t [] = some (mtM p t []) := if_pos ⟨hp, hpo, hto, fun a ha => (by cases ha), by simpa using hd, hd⟩
  rcases hq : mtM p t [] with ⟨R1, b1⟩
  rw [hq] at hF hres
  cases b1 with
  | true =>
    rw [if_pos rfl] at hres
    obtain ⟨rfl, rfl⟩ : R1 = R ∧ true = b := by simpa using hres
    rcases R1 with _ | ⟨y, R1⟩ <;> simp [fS79r0, fS79r1, fS79r2, fS79r3, fS79r4, fS79, hE, hc, hcl, hF]
    · exact GivesL.keepX rfl rfl rfl (by simp)
    · exact GivesL.litX (fun k => if k = 0 then 14 else k) rfl rfl ⟨rfl, rfl⟩ (by simp)
  | false =>
    replace hres : (([] : List Assign), false) = (R, b) := hres
    obtain ⟨rfl, rfl⟩ : [] = R ∧ false = b := by simpa using hres
    rcases R1 with _ | ⟨y, R1⟩ <;> simp [fS79r0, fS79r1, fS79r2, fS79r3, fS79r4, fS79, hE, hc, hcl, hF]
    · exact GivesL.keepX rfl rfl rfl (by simp)
    · exact GivesL.keepX rfl rfl rfl (by simp)
theorem lattice_Leq_run (hc : E.con 79 = rwS 6 true (rwF matchTopF)) {a b : Ty} (hp : b.vplain = true) (hpo : b.ok = true) (hto : a.ok = true) (hd : b.size ≤ 10000) (hs : HS) : CallOk ρ Tryz.prog 27 [enc a, enc b] hs (enc (leqM a b)) hs := by
  refine fn hρ hE hcon Tryz.func27 fB27 rfl (by simp) ?_ hs
  have hF : matchTopF b a [] = some (if (mtM b a []).2 = true then ((mtM b a []).1, true) else ([], false)) := if_pos ⟨rfl, hp, hpo, hto, hd⟩
  unfold leqM
  rcases hq : mtM b a [] with ⟨R1, b1⟩
  rw [hq] at hF
  obtain ⟨ak, an, ai, ah, al⟩ := a
  obtain ⟨bk, bn, bi, bh, bl⟩ := b
  cases b1 with
  | true =>
    rw [if_pos rfl] at hF
    rcases R1 with _ | ⟨y, R1⟩ <;> simp [fS27r0, fS27r1, fS27r2, fS27, hE, hc, hF]
  | false =>
    replace hF : matchTopF ⟨bk, bn, bi, bh, bl⟩ ⟨ak, an, ai, ah, al⟩ [] = some (([] : List Assign), false) := hF
    simp [fS27r0, fS27r1, fS27r2, fS27, hE, hc, hF]
end
theorem vLSame : Valid ρ Tryz.prog 119 (fnS (spec2 fun a b : Ty => some (a.same b))) := v2 (fo Tryz.func119 fB119) fun a b r h hs => by
  cases h; exact lattice_same_run hρ (E := EL []) rfl (consOk_list valid_nil) hs
theorem vLmatch (d : Nat) : Valid ρ Tryz.prog 123 (rwS 6 true (rwF (matchF d))) := by
  induction d with
  | zero =>
    refine Valid.rw (fo Tryz.func123 fB123) fun a b es r _ _ h0 h _ _ _ hs v hv hvac => ?_
    obtain ⟨p, t, L, q, rfl, rfl, rfl, hF, rfl⟩ := rwF_inv h
    obtain ⟨⟨h1, h2, h3, h4, h5, h6⟩, rfl⟩ := ite_inv hF
    have := Ty.size_pos p
    omega
  | succ d ih =>
    refine Valid.rw (fo Tryz.func123 fB123) fun a b es r _ _ h0 h _ _ _ hs v hv hvac => ?_
    obtain ⟨p, t, L, q, rfl, rfl, rfl, hF, rfl⟩ := rwF_inv h
    obtain ⟨⟨h1, h2, h3, h4, h5, h6⟩, rfl⟩ := ite_inv hF
    exact lattice_match_run hρ (E := EL [(123, rwS 6 true (rwF (matchF d))), (155, rdS 6 (some 156) (rdF1 ixFAB)), (95, rdE (rrM 6 1 0 leafRG)), (63, tequalS), (119, fnS (spec2 fun a b : Ty => some (a.same b)))]) rfl
      (consOk_list (valid_cons ih (valid_cons (v_slices_ContainsFunc__api_Assignapi_AssignA hρ) (valid_cons (vRApply hρ) (valid_cons (vTEqual hρ) (valid_cons (vLSame hρ) valid_nil)))))) rfl rfl rfl rfl rfl h1 h2 h3 h4 h5 h6 hv hvac
theorem vClipN : Valid ρ Tryz.prog 124 clipNS where
  fn := fo Tryz.func124 fB124
  ok := by
    intro vs hs v hs' hq
    unfold clipNS at hq
    split at hq
    · cases hq
      have hE : (EL []).P = Tryz.prog := rfl
      exact em hρ hE (consOk_list valid_nil) (D := ⟨0, 0, fun i => i, [], [], [.snil], .snil⟩) Tryz.func124 fB124 rfl
        ⟨rfl, rfl, Nat.le_refl _, fun p hp => (by cases hp), fun p hp => (by cases hp), rfl, fun v hv => by rw [List.mem_singleton.1 hv]; rfl⟩
        (by
          show Wp ρ _ 0 _ _ _ { H := mkP [], n := 0, log := [] } (J.Leaves _ _ (GivesL 0 .snil []))
          rw [show Tryz.f124.ntmps = 9 from rfl]
          simp [fS124r0, fS124r1, fS124, hE, sliceJ, sliceNil, bounds, optJ, isSomeO, orc_some']

          exact GivesL.keepX rfl rfl rfl (by simp))
        ⟨rfl, fun i j hi => absurd hi (by simp), fun p hp => (by cases hp), fun i hi => absurd hi (by simp), fun i hi => absurd hi (by simp)⟩
    · cases hq
  kept := by
    intro vs hs q hq
    unfold clipNS at hq
    split at hq
    · cases hq; exact .refl _
    · cases hq
theorem vLMatch : Valid ρ Tryz.prog 79 (rwS 6 true (rwF matchTopF)) := Valid.rw (fo Tryz.func79 fB79) fun a b es r _ _ h0 h _ _ _ hs v hv hvac => by
  obtain ⟨p, t, L, q, rfl, rfl, rfl, hF, rfl⟩ := rwF_inv h
  obtain ⟨⟨rfl, h1, h2, h3, h4⟩, hq⟩ := ite_inv hF
  exact lattice_Match_run hρ (E := EL [(123, rwS 6 true (rwF (matchF 10000))), (124, clipNS)]) rfl (consOk_list (valid_cons (vLmatch hρ 10000) (valid_cons (vClipN hρ) valid_nil))) rfl rfl h1 h2 h3 h4 hq hv hvac
noncomputable def leqS : J.Spec := fnS (spec2 leqF)
theorem vLeq : Valid ρ Tryz.prog 27 leqS := v2 (fo Tryz.func27 fB27) fun a b r h hs => by
  obtain ⟨⟨h1, h2, h3, h4⟩, rfl⟩ := ite_inv h
  exact lattice_Leq_run hρ (E := EL [(79, rwS 6 true (rwF matchTopF))]) rfl (consOk_list (valid_cons (vLMatch hρ) valid_nil)) rfl h1 h2 h3 h4 hs
end
end Go.Proofs.YthfcfmkdeheicaaGreat
