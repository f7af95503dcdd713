import Derived.Test.YthfcfmkdeheicaaPSV
set_option linter.all false
/- store.Vars. -/
set_option linter.all false
namespace Go.Proofs.Ythfcfmkdeheicaa
open Go.J
open Go.J.Enc (enc)
set_option maxRecDepth 100000
set_option maxHeartbeats 4000000
theorem sv_short {s : Store} {l : List Ty} (h : varsOk s l) : (varsS s l).length ≤ 100000 := by
  have h1 := vsL_ok (s := s) (f := 100000) (fun t st => vsM_ok s 100000 t st) l (([] : List Int), List.replicate s.slots.length false)
  have h2 := h.2.2.2
  have h3 := h1.2.2.2
  unfold varsS
  simp only [List.length_nil] at h3
  omega
section
variable {ρ : Nat → Value} (hρ : J.Good ρ) {E : Env} (hE : E.P = Try.prog) (hcon : ConsOk ρ E)
include hρ hE hcon
theorem store_Vars_run (hc : E.con 78 = embS (svM 78 (Store.svF 100000))) {s : Store} {l : List Ty} (hv : varsOk s l) (hs0 : HS) : CallOk ρ Try.prog 40 [enc s, enc l] hs0 (enc (varsS s l)) hs0 := by
  refine fn hρ hE hcon Try.func40 BS_store_Vars rfl (by simp) ?_ hs0
  obtain ⟨R, hR, hRv⟩ := Store.svs_vars hv
  have hlen := sv_short hv
  rw [← hRv] at hlen ⊢
  have hsO := hv.1
  have hlo := Ty.oks_iff.1 hv.2.1
  have hll := hv.2.2.1
  simp [S_store_Vars_r0, S_store_Vars_r1, S_store_Vars_r2, S_store_Vars_r3, S_store_Vars_r4, S_store_Vars_r5, S_store_Vars_r6, S_store_Vars_r7, S_store_Vars_r8, S_store_Vars_b0, S_store_Vars_r9, S_store_Vars_b1, S_store_Vars_r10, S_store_Vars, hE]
  refine lpi hρ hE hcon l.length (nn := 6) (fun i (_ : Store.Sv) => [(5, .ptr 3 0 0), (7, .ptr 4 0 0), (12, .sl (l.map encTy) false), (13, .int .i64 (l.length : Int)), (14, .int .i64 (i : Int))])
    (fun i st => svOL 78 s st.1 st.2) (fun i st => Store.svL (Store.svO s 100000) (l.drop i) st = some R) ([], [])
    (Less.lit (fun k => if k = 0 then 4 else if k = 1 then 3 else if k = 2 then 0 else if k = 3 then 2 else if k = 4 then 6 else k) 6 (by simp [svOL]) (by simp [svOL, slfV]) rfl rfl) (by simpa using hR) ?_ ?_
  · rintro ⟨seen, out⟩ h1 K
    rw [List.drop_length] at h1
    cases h1
    rcases out with _ | ⟨x, out⟩
    · simp [S_store_Vars_l0, S_store_Vars_r0, S_store_Vars_r1, S_store_Vars_r2, S_store_Vars_r3, S_store_Vars_r4, S_store_Vars_r5, S_store_Vars_r6, S_store_Vars_r7, S_store_Vars_r8, S_store_Vars_b0, S_store_Vars_r9, S_store_Vars_b1, S_store_Vars_r10, S_store_Vars, hE, svOL, slfV]
      refine LessQ.mk (Less.auto (TL := [(5, .ptr 0 0 0)]) (HL := [(0, capB .snil)]) (n := 1) (by simp) (by simp) (by simp) (by simp)) ?_
      simp [S_store_Vars_r0, S_store_Vars_r1, S_store_Vars_r2, S_store_Vars_r3, S_store_Vars_r4, S_store_Vars_r5, S_store_Vars_r6, S_store_Vars_r7, S_store_Vars_r8, S_store_Vars_b0, S_store_Vars_r9, S_store_Vars_b1, S_store_Vars_r10, S_store_Vars, hE]
    · simp [S_store_Vars_l0, S_store_Vars_r0, S_store_Vars_r1, S_store_Vars_r2, S_store_Vars_r3, S_store_Vars_r4, S_store_Vars_r5, S_store_Vars_r6, S_store_Vars_r7, S_store_Vars_r8, S_store_Vars_b0, S_store_Vars_r9, S_store_Vars_b1, S_store_Vars_r10, S_store_Vars, hE, svOL, slfV]
      refine LessQ.mk (Less.auto (TL := [(5, .ptr 0 0 0)]) (HL := [(0, capB (.own 1 out.length 0 (out.length + 1) none)), (1, .arr 1 out.length ((x :: out).map encI) false false true)]) (n := 2) (by simp) (by simp) (by simp) (by simp)) ?_
      simp [S_store_Vars_r0, S_store_Vars_r1, S_store_Vars_r2, S_store_Vars_r3, S_store_Vars_r4, S_store_Vars_r5, S_store_Vars_r6, S_store_Vars_r7, S_store_Vars_r8, S_store_Vars_b0, S_store_Vars_r9, S_store_Vars_b1, S_store_Vars_r10, S_store_Vars, hE]
  · rintro i ⟨seen, out⟩ hil h1 K hK
    have hil' : (i : Int) < l.length := by omega
    have hw : IntKind.i64.wrap ((i : Int) + 1) = ((i + 1 : Nat) : Int) := wrap_succ (by omega)
    rw [List.drop_eq_getElem_cons hil, Store.svL] at h1
    have hxo := hlo _ (List.getElem_mem hil)
    obtain ⟨x, hx⟩ : ∃ x, l[i] = x := ⟨_, rfl⟩
    rw [hx] at h1 hxo
    split at h1
    case h_2 => cases h1
    rename_i st' h3
    have hm1 := Store.svO_len s _ _ _ _ h3
    have hm2 := Store.svL_len (Store.svO_len s 100000) _ _ _ h1
    have hF := Store.svF_mk hsO hxo h3 (Nat.le_trans hm2 hlen)
    obtain ⟨seen', out'⟩ := st'
    simp only at hm1
    have hnew := hK (seen', out') h1
    obtain ⟨xk, xn, xi, xh, xa⟩ := x
    rcases out with _ | ⟨y, out⟩
    · rcases out' with _ | ⟨z, out'⟩
      · simp [S_store_Vars_l0, S_store_Vars_r0, S_store_Vars_r1, S_store_Vars_r2, S_store_Vars_r3, S_store_Vars_r4, S_store_Vars_r5, S_store_Vars_r6, S_store_Vars_r7, S_store_Vars_r8, S_store_Vars_b0, S_store_Vars_r9, S_store_Vars_b1, S_store_Vars_r10, S_store_Vars, hE, hil, hil', hx, hc, hF, hw, vacant_eq, svOL, slfV, -Int.natCast_add]
        exact hnew _ _ (Less.auto (by simp [svOL, slfV, -Int.natCast_add]) (by simp [svOL, slfV]) (by simp [svOL]) (by simp [svOL]))
      · simp [S_store_Vars_l0, S_store_Vars_r0, S_store_Vars_r1, S_store_Vars_r2, S_store_Vars_r3, S_store_Vars_r4, S_store_Vars_r5, S_store_Vars_r6, S_store_Vars_r7, S_store_Vars_r8, S_store_Vars_b0, S_store_Vars_r9, S_store_Vars_b1, S_store_Vars_r10, S_store_Vars, hE, hil, hil', hx, hc, hF, hw, vacant_eq, svOL, slfV, -Int.natCast_add]
        exact hnew _ _ (Less.auto (by simp [svOL, slfV, -Int.natCast_add]) (by simp [svOL, slfV]) (by simp [svOL]) (by simp [svOL]))
    · rcases out' with _ | ⟨z, out'⟩
      · simp at hm1
      · have hmono' : out.length ≤ out'.length := by simpa using hm1
        simp [S_store_Vars_l0, S_store_Vars_r0, S_store_Vars_r1, S_store_Vars_r2, S_store_Vars_r3, S_store_Vars_r4, S_store_Vars_r5, S_store_Vars_r6, S_store_Vars_r7, S_store_Vars_r8, S_store_Vars_b0, S_store_Vars_r9, S_store_Vars_b1, S_store_Vars_r10, S_store_Vars, hE, hil, hil', hx, hc, hF, hw, hmono', vacant_eq, svOL, slfV, -Int.natCast_add]
        exact hnew _ _ (Less.auto (by simp [svOL, slfV, -Int.natCast_add]) (by simp [svOL, slfV]) (by simp [svOL]) (by simp [svOL]))
end
section
variable {ρ : Nat → Value} (hρ : J.Good ρ)
include hρ
theorem vSVis (d : Nat) : Valid ρ Try.prog 78 (embS (svM 78 (Store.svF d))) := by
  induction d with
  | zero =>
    refine Valid.emb (fo Try.func78 BS_store_Vars_1) fun vs hs D h => ?_
    obtain ⟨s, t, st, r, a, m, c, b, e, ro, hR, rfl, _, _, hfit⟩ := svM_inv h
    have := (Store.svF_inv hR).2.2.1
    cases this
  | succ d ih =>
    refine Valid.emb (fo Try.func78 BS_store_Vars_1) fun vs hs D h => ?_
    obtain ⟨s, t, st, r, a, m, c, b, e, ro, hR, rfl, _, _, hfit⟩ := svM_inv h
    exact store_Vars_1_run hρ (E := EL [(78, embS (svM 78 (Store.svF d))), (75, fnS (spec2 fun (s : Store) (t : Ty) => some (s.bound t)))]) rfl (consOk_list (valid_cons ih (valid_cons (vSBound hρ) valid_nil))) rfl rfl hR hfit
theorem vSVars : Valid ρ Try.prog 40 vars16S := v2 (fo Try.func40 BS_store_Vars) fun a b r h hs => by
  obtain ⟨h1, rfl⟩ := ite_inv h
  exact store_Vars_run hρ (E := EL [(78, embS (svM 78 (Store.svF 100000)))]) rfl (consOk_list (valid_cons (vSVis hρ 100000) valid_nil)) rfl h1 hs
end
end Go.Proofs.Ythfcfmkdeheicaa
