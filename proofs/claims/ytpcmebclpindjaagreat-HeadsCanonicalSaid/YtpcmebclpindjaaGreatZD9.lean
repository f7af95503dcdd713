import Derived.Test.YtpcmebclpindjaaGreatZD8
set_option linter.all false
set_option linter.all false
namespace Go.Proofs.YtpcmebclpindjaaGreat
open Go.J
open Go.J.Enc (enc)
set_option maxRecDepth 100000
set_option maxHeartbeats 1000000
noncomputable def colLeafF (out : List Int) (t : Ty) : Option (List Int) := if out.length ≤ 100000 then some (colLeaf out t) else none
noncomputable def visTF (d : Nat) (out : List Int) (t : Ty) : Option (List Int) := if t.ok = true ∧ t.size ≤ d ∧ out.length + t.size ≤ 100000 then some (colT t out) else none
section
variable {ρ : Nat → Value} (hρ : J.Good ρ)
include hρ
theorem vVars1 : Valid ρ Tryz.prog 121 (embS (colM none colLeafF)) := Valid.emb (fo Tryz.func121 BS_types_Vars_1) fun vs hs D h => by
  obtain ⟨out, t, r, id, ro, hF, rfl, _, _, hfit⟩ := colM_inv h
  obtain ⟨h1, rfl⟩ := ite_inv hF
  exact types_Vars_1_run hρ (E := EL [(122, hasS)]) rfl (consOk_list (valid_cons (vContains hρ) valid_nil)) rfl h1 hfit
section
variable {E : Env} (hE : E.P = Tryz.prog) (hcon : ConsOk ρ E)
include hE hcon
theorem types_visit_loop {d k : Nat} (hc : E.con 120 = embS (colM (some 121) (visTF d))) {t : Ty} {m : List Int} (hk : k = 1 ∨ k = 2 ∧ m ≠ []) (ht : t.ok = true) (hd : t.size ≤ d + 1) (hl : m.length + Ty.sizes t.args ≤ 100000) :
    Ls ρ E k 20 (.loop S_types_visit_l0) (mkP [(1, .func 121 [.ptr 0 0 0]), (10, .sl (t.args.map encTy) false), (11, .int .i64 (t.args.length : Int)), (12, .int .i64 ((0 : Nat) : Int))]) { H := mkP (colL m), n := 2, log := [] }
      (Ex.inBlock 0 (J.Leaves E.P Tryz.f120 (GivesL k (.tuple []) (colL (colTs t.args m))))) := by
  have hlen := Ty.ok_len ht
  refine lpi hρ hE hcon t.args.length (nn := 2) (fun i (_ : List Int) => [(1, .func 121 [.ptr 0 0 0]), (10, .sl (t.args.map encTy) false), (11, .int .i64 (t.args.length : Int)), (12, .int .i64 (i : Int))])
    (fun i out => colL out) (fun i out => out = colTs (t.args.take i) m ∧ (k = 2 → out ≠ [])) m ?_ ⟨by simp [colTs], fun h => hk.elim (fun h1 => by omega) (fun h1 => h1.2)⟩ ?_ ?_
  · rcases hk with rfl | ⟨rfl, hm⟩
    · rcases m with _ | ⟨a, m⟩ <;> exact Less.auto (by simp [colL]) (by simp [colL]) (by simp [colL]) (by simp [colL, List.range_succ])
    · rcases m with _ | ⟨a, m⟩
      · exact absurd rfl hm
      · exact Less.auto (by simp [colL]) (by simp [colL]) (by simp [colL]) (by simp [colL, List.range_succ])
  · rintro out ⟨ho, h2⟩ K
    rw [List.take_length] at ho
    rw [← ho]
    clear ho
    rcases out with _ | ⟨a, out⟩
    · obtain rfl : k = 1 := hk.elim (fun h => h) (fun h => absurd rfl (h2 h.1))
      simp [S_types_visit_l0, S_types_visit_r0, S_types_visit_r1, S_types_visit_r2, S_types_visit_r3, S_types_visit_r4, S_types_visit_r5, S_types_visit_b0, S_types_visit_r6, S_types_visit_b1, S_types_visit, hE, colL]
      refine LessQ.mk (Less.auto (TL := []) (HL := colL []) (n := 2) (by simp) (by simp [colL]) (by simp [colL]) (by simp [colL, List.range_succ])) ?_
      simp [S_types_visit_r0, S_types_visit_r1, S_types_visit_r2, S_types_visit_r3, S_types_visit_r4, S_types_visit_r5, S_types_visit_b0, S_types_visit_r6, S_types_visit_b1, S_types_visit, hE, colL]
      exact GivesL.keepX rfl rfl rfl (by simp)
    · rcases hk with rfl | ⟨rfl, _⟩
      all_goals
        simp [S_types_visit_l0, S_types_visit_r0, S_types_visit_r1, S_types_visit_r2, S_types_visit_r3, S_types_visit_r4, S_types_visit_r5, S_types_visit_b0, S_types_visit_r6, S_types_visit_b1, S_types_visit, hE, colL]
        refine LessQ.mk (Less.auto (TL := []) (HL := colL (a :: out)) (n := 2) (by simp) (by simp [colL]) (by simp [colL]) (by simp [colL, List.range_succ])) ?_
        simp [S_types_visit_r0, S_types_visit_r1, S_types_visit_r2, S_types_visit_r3, S_types_visit_r4, S_types_visit_r5, S_types_visit_b0, S_types_visit_r6, S_types_visit_b1, S_types_visit, hE, colL]
        exact GivesL.keepX rfl rfl rfl (by simp)
  · rintro i out hi ⟨ho, h2⟩ K hK
    have hi' : (i : Int) < t.args.length := by omega
    have hw2 : IntKind.i64.wrap ((i : Int) + 1) = ((i + 1 : Nat) : Int) := wrap_succ (by omega)
    have hmem := List.getElem_mem hi
    have hol := (colTs_len (t.args.take i) m).2
    have hsz := sizes_take_le t.args (i + 1)
    rw [List.take_add_one, List.getElem?_eq_getElem hi, Option.toList_some, sizes_app] at hsz
    simp only [Ty.sizes] at hsz
    have hF : visTF d out t.args[i] = some (colT t.args[i] out) := if_pos ⟨Ty.ok_arg ht hmem, by have := Ty.size_arg hmem; omega, by rw [ho]; omega⟩
    have hol2 := colT_len t.args[i] out
    have hnew := hK (colT t.args[i] out) ⟨by rw [List.take_add_one, List.getElem?_eq_getElem hi, Option.toList_some, colTs_snoc, ← ho], fun h e => h2 h (by rw [e] at hol2; exact List.eq_nil_of_length_eq_zero (by simpa using hol2.1))⟩
    clear ho hK
    generalize colT t.args[i] out = out' at hF hnew hol2
    rcases out with _ | ⟨a, out⟩
    · obtain rfl : k = 1 := hk.elim (fun h => h) (fun h => absurd rfl (h2 h.1))
      rcases out' with _ | ⟨b, out'⟩
      · simp [S_types_visit_l0, S_types_visit_r0, S_types_visit_r1, S_types_visit_r2, S_types_visit_r3, S_types_visit_r4, S_types_visit_r5, S_types_visit_b0, S_types_visit_r6, S_types_visit_b1, S_types_visit, hE, hi, hi', hc, hF, hw2, vacant_eq, colL, -Int.natCast_add]
        exact hnew _ _ (Less.auto (by simp [colL, -Int.natCast_add]) (by simp [colL]) (by simp [colL]) (by simp [colL, List.range_succ]))
      · simp [S_types_visit_l0, S_types_visit_r0, S_types_visit_r1, S_types_visit_r2, S_types_visit_r3, S_types_visit_r4, S_types_visit_r5, S_types_visit_b0, S_types_visit_r6, S_types_visit_b1, S_types_visit, hE, hi, hi', hc, hF, hw2, vacant_eq, colL, -Int.natCast_add]
        exact hnew _ _ (Less.auto (by simp [colL, -Int.natCast_add]) (by simp [colL]) (by simp [colL]) (by simp [colL, List.range_succ]))
    · rcases out' with _ | ⟨b, out'⟩
      · simp at hol2
      · have hle : out.length ≤ out'.length := by simpa using hol2.1
        rcases hk with rfl | ⟨rfl, _⟩
        all_goals
          simp [S_types_visit_l0, S_types_visit_r0, S_types_visit_r1, S_types_visit_r2, S_types_visit_r3, S_types_visit_r4, S_types_visit_r5, S_types_visit_b0, S_types_visit_r6, S_types_visit_b1, S_types_visit, hE, hi, hi', hc, hF, hw2, hle, vacant_eq, colL, -Int.natCast_add]
          exact hnew _ _ (Less.auto (by simp [colL, -Int.natCast_add]) (by simp [colL]) (by simp [colL]) (by simp [colL, List.range_succ]))
/-- calling the leaf's function, then visiting the arguments -/
theorem types_visit_run {d : Nat} (hL : E.con 121 = embS (colM none colLeafF)) (hc : E.con 120 = embS (colM (some 121) (visTF d))) {t : Ty} {out : List Int} (ht : t.ok = true) (hd : t.size ≤ d + 1) (hl : out.length + t.size ≤ 100000) {id ro : Nat} {vs : List V} {hs : HS}
    (hfit : (colD (some 121) (enc t) id ro out (colT t out)).Fits vs hs) :
    CallOk ρ Tryz.prog 120 vs hs ((colD (some 121) (enc t) id ro out (colT t out)).val hs) ((colD (some 121) (enc t) id ro out (colT t out)).heap hs) := by
  refine em hρ hE hcon Tryz.func120 BS_types_visit rfl (colD_good (colT_len t out).1) ?_ hfit
  clear hfit
  have hlen := Ty.ok_len ht
  have hts := Ty.size_eq t
  have hF : colLeafF out t = some (colLeaf out t) := if_pos (by omega)
  have hl1 := colLeaf_len out t
  rw [colT_eq]
  have lo := fun (k : Nat) (hk : k = 1 ∨ k = 2 ∧ colLeaf out t ≠ []) => types_visit_loop hρ hE hcon hc (m := colLeaf out t) hk ht hd (by omega)
  rcases out with _ | ⟨a, out⟩
  · show Wp ρ E 1 _ _ _ { H := mkP (colL []), n := 1, log := [] } (J.Leaves E.P _ (GivesL 1 (.tuple []) (colL (colTs t.args (colLeaf [] t)))))
    generalize colLeaf [] t = m at hF hl1 lo
    rcases m with _ | ⟨b, m⟩
    · simp [S_types_visit_r0, S_types_visit_r1, S_types_visit_r2, S_types_visit_r3, S_types_visit_r4, S_types_visit_r5, S_types_visit_b0, S_types_visit_r6, S_types_visit_b1, S_types_visit, hE, hL, hF, vacant_eq, colL]
      exact Ls_less (Less.auto (by simp [colL, -Int.natCast_add]) (by simp [colL]) (by simp [colL]) (by simp [colL, List.range_succ])) (lo 1 (.inl rfl))
    · simp [S_types_visit_r0, S_types_visit_r1, S_types_visit_r2, S_types_visit_r3, S_types_visit_r4, S_types_visit_r5, S_types_visit_b0, S_types_visit_r6, S_types_visit_b1, S_types_visit, hE, hL, hF, vacant_eq, colL]
      exact Ls_less (Less.auto (by simp [colL, -Int.natCast_add]) (by simp [colL]) (by simp [colL]) (by simp [colL, List.range_succ])) (lo 1 (.inl rfl))
  · show Wp ρ E 2 _ _ _ { H := mkP (colL (a :: out)), n := 2, log := [] } (J.Leaves E.P _ (GivesL 2 (.tuple []) (colL (colTs t.args (colLeaf (a :: out) t)))))
    generalize colLeaf (a :: out) t = m at hF hl1 lo
    rcases m with _ | ⟨b, m⟩
    · simp at hl1
    · have hle : out.length ≤ m.length := by simpa using hl1.1
      simp [S_types_visit_r0, S_types_visit_r1, S_types_visit_r2, S_types_visit_r3, S_types_visit_r4, S_types_visit_r5, S_types_visit_b0, S_types_visit_r6, S_types_visit_b1, S_types_visit, hE, hL, hF, hle, vacant_eq, colL]
      exact Ls_less (Less.auto (by simp [colL, -Int.natCast_add]) (by simp [colL]) (by simp [colL]) (by simp [colL, List.range_succ])) (lo 2 (.inr ⟨rfl, by simp⟩))
end
end
end Go.Proofs.YtpcmebclpindjaaGreat
