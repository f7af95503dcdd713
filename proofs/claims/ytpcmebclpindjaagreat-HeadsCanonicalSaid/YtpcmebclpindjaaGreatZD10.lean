import Derived.Test.YtpcmebclpindjaaGreatZD9
set_option linter.all false
set_option linter.all false
namespace Go.Proofs.YtpcmebclpindjaaGreat
open Go.J
open Go.J.Enc (enc)
set_option maxRecDepth 100000
set_option maxHeartbeats 1000000
section
variable {ρ : Nat → Value} (hρ : J.Good ρ)
include hρ
theorem vVisit (d : Nat) : Valid ρ Tryz.prog 120 (embS (colM (some 121) (visTF d))) := by
  induction d with
  | zero =>
    refine Valid.emb (fo Tryz.func120 BS_types_visit) fun vs hs D h => ?_
    obtain ⟨out, t, r, id, ro, hF, rfl, _, _, hfit⟩ := colM_inv h
    obtain ⟨⟨h1, h2, h3⟩, rfl⟩ := ite_inv hF
    have := Ty.size_eq t
    omega
  | succ d ih =>
    refine Valid.emb (fo Tryz.func120 BS_types_visit) fun vs hs D h => ?_
    obtain ⟨out, t, r, id, ro, hF, rfl, _, _, hfit⟩ := colM_inv h
    obtain ⟨⟨h1, h2, h3⟩, rfl⟩ := ite_inv hF
    exact types_visit_run hρ (E := EL [(121, embS (colM none colLeafF)), (120, embS (colM (some 121) (visTF d)))]) rfl
      (consOk_list (valid_cons (vVars1 hρ) (valid_cons ih valid_nil))) rfl rfl h1 h2 h3 hfit
section
variable {E : Env} (hE : E.P = Tryz.prog) (hcon : ConsOk ρ E)
include hE hcon
theorem types_Vars_run {d : Nat} (hc : E.con 120 = embS (colM (some 121) (visTF d))) {l : List Ty} (hl : Ty.oks l = true) (hd : Ty.sizes l ≤ d) (hll : l.length ≤ 1000000) (hs2 : Ty.sizes l ≤ 100000) (hs : HS) : CallOk ρ Tryz.prog 58 [enc l] hs (enc (colTs l [])) hs := by
  refine fn hρ hE hcon Tryz.func58 BS_types_Vars rfl (by simp) ?_ hs
  simp [S_types_Vars_r0, S_types_Vars_r1, S_types_Vars_r2, S_types_Vars_r3, S_types_Vars_r4, S_types_Vars_r5, S_types_Vars_b0, S_types_Vars_r6, S_types_Vars_b1, S_types_Vars_r7, S_types_Vars, hE]
  refine lpi hρ hE hcon l.length (nn := 2) (fun i (_ : List Int) => [(3, .ptr 0 0 0), (6, .sl (l.map encTy) false), (7, .int .i64 (l.length : Int)), (8, .int .i64 (i : Int))])
    (fun i out => colL out) (fun i out => out = colTs (l.take i) []) []
    (Less.auto (by simp [colL]) (by simp [colL]) (by simp [colL]) (by simp [colL])) (by simp [colTs]) ?_ ?_
  · intro out ho K
    rw [List.take_length] at ho
    rw [← ho]
    clear ho
    rcases out with _ | ⟨a, out⟩
    · simp [S_types_Vars_l0, S_types_Vars_r0, S_types_Vars_r1, S_types_Vars_r2, S_types_Vars_r3, S_types_Vars_r4, S_types_Vars_r5, S_types_Vars_b0, S_types_Vars_r6, S_types_Vars_b1, S_types_Vars_r7, S_types_Vars, hE, colL]
      refine LessQ.mk (Less.auto (TL := [(3, .ptr 0 0 0)]) (HL := colL []) (n := 2) (by simp [colL]) (by simp [colL]) (by simp [colL]) (by simp [colL])) ?_
      simp [S_types_Vars_r0, S_types_Vars_r1, S_types_Vars_r2, S_types_Vars_r3, S_types_Vars_r4, S_types_Vars_r5, S_types_Vars_b0, S_types_Vars_r6, S_types_Vars_b1, S_types_Vars_r7, S_types_Vars, hE, colL]
    · simp [S_types_Vars_l0, S_types_Vars_r0, S_types_Vars_r1, S_types_Vars_r2, S_types_Vars_r3, S_types_Vars_r4, S_types_Vars_r5, S_types_Vars_b0, S_types_Vars_r6, S_types_Vars_b1, S_types_Vars_r7, S_types_Vars, hE, colL]
      refine LessQ.mk (Less.auto (TL := [(3, .ptr 0 0 0)]) (HL := colL (a :: out)) (n := 2) (by simp [colL]) (by simp [colL]) (by simp [colL]) (by simp [colL])) ?_
      simp [S_types_Vars_r0, S_types_Vars_r1, S_types_Vars_r2, S_types_Vars_r3, S_types_Vars_r4, S_types_Vars_r5, S_types_Vars_b0, S_types_Vars_r6, S_types_Vars_b1, S_types_Vars_r7, S_types_Vars, hE, colL]
  · rintro i out hi ho K hK
    have hi' : (i : Int) < l.length := by omega
    have hw2 : IntKind.i64.wrap ((i : Int) + 1) = ((i + 1 : Nat) : Int) := wrap_succ (by omega)
    have hmem := List.getElem_mem hi
    have hol := (colTs_len (l.take i) []).2
    have hsz := sizes_take_le l (i + 1)
    rw [List.take_add_one, List.getElem?_eq_getElem hi, Option.toList_some, sizes_app] at hsz
    simp only [Ty.sizes] at hsz
    simp only [List.length_nil] at hol
    have hF : visTF d out l[i] = some (colT l[i] out) := if_pos ⟨Ty.oks_iff.1 hl _ hmem, by omega, by rw [ho]; omega⟩
    have hol2 := colT_len l[i] out
    have hnew := hK (colT l[i] out) (by rw [List.take_add_one, List.getElem?_eq_getElem hi, Option.toList_some, colTs_snoc, ← ho])
    clear ho hK
    generalize colT l[i] out = out' at hF hnew hol2
    rcases out with _ | ⟨a, out⟩
    · rcases out' with _ | ⟨b, out'⟩
      all_goals
        simp [S_types_Vars_l0, S_types_Vars_r0, S_types_Vars_r1, S_types_Vars_r2, S_types_Vars_r3, S_types_Vars_r4, S_types_Vars_r5, S_types_Vars_b0, S_types_Vars_r6, S_types_Vars_b1, S_types_Vars_r7, S_types_Vars, hE, hi, hi', hc, hF, hw2, vacant_eq, colL, -Int.natCast_add]
        exact hnew _ _ (Less.auto (by simp [colL, -Int.natCast_add]) (by simp [colL]) (by simp [colL]) (by simp [colL]))
    · rcases out' with _ | ⟨b, out'⟩
      · simp at hol2
      · have hle : out.length ≤ out'.length := by simpa using hol2.1
        simp [S_types_Vars_l0, S_types_Vars_r0, S_types_Vars_r1, S_types_Vars_r2, S_types_Vars_r3, S_types_Vars_r4, S_types_Vars_r5, S_types_Vars_b0, S_types_Vars_r6, S_types_Vars_b1, S_types_Vars_r7, S_types_Vars, hE, hi, hi', hc, hF, hw2, hle, vacant_eq, colL, -Int.natCast_add]
        exact hnew _ _ (Less.auto (by simp [colL, -Int.natCast_add]) (by simp [colL]) (by simp [colL]) (by simp [colL]))
end
noncomputable def tvarsS : J.Spec := fnS (spec1 fun l : List Ty => if Ty.oks l = true ∧ l.length ≤ 1000000 ∧ Ty.sizes l ≤ 100000 then some (colTs l []) else none)
theorem vTVars : Valid ρ Tryz.prog 58 tvarsS := v1 (fo Tryz.func58 BS_types_Vars) fun a r h hs => by
  obtain ⟨⟨h1, h2, h3⟩, rfl⟩ := ite_inv h
  exact types_Vars_run hρ (E := EL [(120, embS (colM (some 121) (visTF (Ty.sizes a))))]) rfl (consOk_list (valid_cons (vVisit hρ (Ty.sizes a)) valid_nil)) rfl h1 (Nat.le_refl _) h2 h3 hs
end
end Go.Proofs.YtpcmebclpindjaaGreat
