import Derived.Test.YthfcfmkdeheicaaPB18
set_option linter.all false
set_option linter.all false
namespace Go.Proofs.Ythfcfmkdeheicaa
open Go.J
open Go.J.Enc (enc)
set_option maxRecDepth 100000
set_option maxHeartbeats 4000000
section
variable {ρ : Nat → Value} (hρ : J.Good ρ) {E : Env} (hE : E.P = Try.prog) (hcon : ConsOk ρ E)
include hρ hE hcon
theorem ref16_Vars_loop (hc : E.con 79 = embS (visM (visF 100000))) {s : Store} (hs : s.tysOk) {l : List Ty} (hl : Ty.oks l = true) (hll : l.length ≤ 10000) {st0 R : List Int × List Bool} (hdl : st0.2.length = s.slots.length)
    (hb : st0.1.length + Ty.sizes l + und s.slots st0.2 ≤ 100000) {Q : Ex → PT V → HS → Prop}
    (hQ : Q (.exit 0) (mkP [(5, .ptr 0 0 0)]) { H := mkP (fndH s st0.2.length R), n := 4, log := [] }) :
    ∀ (n i : Nat) (st : List Int × List Bool), i + n = l.length → VsOk s (Ty.sizes (l.take i)) st0 st → (l.drop i).foldl (fun st x => vsM s 100000 x st) st = R →
      LsN ρ E 0 30 S_ref16_Vars_l0 (LessQ 0 Q) (n + 1) (mkP [(6, .int .i64 (i : Int)), (1, .sl (l.map encTy) false), (5, .ptr 0 0 0)])
        { H := mkP (fndH s st0.2.length st), n := 4, log := [] } := by
  intro n
  induction n with
  | zero =>
    intro i st hi hst hR
    have hil : ¬ (i : Int) < l.length := by omega
    rw [List.drop_of_length_le (by omega)] at hR
    simp only [List.foldl_nil] at hR
    subst hR
    refine lp hρ hE hcon fun K hK => ?_
    obtain ⟨out, done⟩ := st
    rcases out with _ | ⟨x, out⟩ <;> simp [S_ref16_Vars_l0, S_ref16_Vars_r0, S_ref16_Vars_r1, S_ref16_Vars_r2, S_ref16_Vars_r3, S_ref16_Vars_r4, S_ref16_Vars_b0, S_ref16_Vars_r5, S_ref16_Vars_b1, S_ref16_Vars_r6, S_ref16_Vars, hE, hil, fndH, fndB, mkO] <;>
    exact LessQ.mk (Less.keep 4 (by simp [fndH]) (by simp [fndH, fndB, mkO]) rfl rfl) hQ
  | succ n ih =>
    intro i st hi hst hR
    have hil : i < l.length := by omega
    have hil' : (i : Int) < l.length := by omega
    have hw : IntKind.i64.wrap ((i : Int) + 1) = ((i + 1 : Nat) : Int) := wrap_succ (by omega)
    have hx := Ty.oks_iff.1 hl _ (List.getElem_mem hil)
    have hsz : Ty.sizes (l.take (i + 1)) = Ty.sizes (l.take i) + l[i].size := by
      rw [List.take_add_one, List.getElem?_eq_getElem hil, sizes_app]; simp [Ty.sizes]
    have hsz2 := sizes_take_le l (i + 1)
    rw [List.drop_eq_getElem_cons hil, List.foldl_cons] at hR
    have hstep := vsM_ok s 100000 l[i] st
    have hnx := hst.trans hstep
    rw [← hsz] at hnx
    have hF : visF 100000 s st.1 st.2 l[i] = some (vsM s 100000 l[i] st) := by
      obtain ⟨g1, g2, g3, g4⟩ := hst
      unfold visF
      rw [if_pos ⟨hs, hx, by omega, by omega, by omega⟩]
    have hnew := ih (i + 1) (vsM s 100000 l[i] st) (by omega) hnx hR
    have hd1 : st.2.length = st0.2.length := hst.1
    generalize hX : l[i] = x at *
    generalize vsM s 100000 x st = st' at *
    obtain ⟨out, done⟩ := st
    obtain ⟨out', done'⟩ := st'
    obtain ⟨g1, g2, _, _⟩ := hstep
    simp only at g1 g2 hd1 hF
    refine lp hρ hE hcon fun K hK => ?_
    rcases out with _ | ⟨a, out⟩
    · rcases out' with _ | ⟨b, out'⟩
      · simp [S_ref16_Vars_l0, S_ref16_Vars_r0, S_ref16_Vars_r1, S_ref16_Vars_r2, S_ref16_Vars_r3, S_ref16_Vars_r4, S_ref16_Vars_b0, S_ref16_Vars_r5, S_ref16_Vars_b1, S_ref16_Vars_r6, S_ref16_Vars, hE, hil, hil', hX, hc, hF, fndH, fndB, mkO, hd1, g1, hw, vacant_eq, -Int.natCast_add]
        exact hK _ _ (LsN_less (Less.keep 4 (by simp [fndH, -Int.natCast_add]) (by simp [fndH, fndB, mkO]) rfl rfl) hnew)
      · simp [S_ref16_Vars_l0, S_ref16_Vars_r0, S_ref16_Vars_r1, S_ref16_Vars_r2, S_ref16_Vars_r3, S_ref16_Vars_r4, S_ref16_Vars_b0, S_ref16_Vars_r5, S_ref16_Vars_b1, S_ref16_Vars_r6, S_ref16_Vars, hE, hil, hil', hX, hc, hF, fndH, fndB, mkO, hd1, g1, hw, vacant_eq, -Int.natCast_add]
        exact hK _ _ (LsN_less (Less.lit (fun k => if k = 2 then 14 else k) 4 (by simp [fndH, -Int.natCast_add]) (by simp [fndH, fndB, mkO]) rfl rfl) hnew)
    · rcases out' with _ | ⟨b, out'⟩
      · simp at g2
      · have g2' : out.length ≤ out'.length := by simpa using g2
        simp [S_ref16_Vars_l0, S_ref16_Vars_r0, S_ref16_Vars_r1, S_ref16_Vars_r2, S_ref16_Vars_r3, S_ref16_Vars_r4, S_ref16_Vars_b0, S_ref16_Vars_r5, S_ref16_Vars_b1, S_ref16_Vars_r6, S_ref16_Vars, hE, hil, hil', hX, hc, hF, fndH, fndB, mkO, hd1, g1, g2', hw, vacant_eq, -Int.natCast_add]
        exact hK _ _ (LsN_less (Less.keep 4 (by simp [fndH, -Int.natCast_add]) (by simp [fndH, fndB, mkO, oO]) rfl rfl) hnew)
theorem ref16_Vars_run (hc : E.con 79 = embS (visM (visF 100000))) {s : Store} {l : List Ty} (hv : varsOk s l) (hs0 : HS) : CallOk ρ Try.prog 41 [enc s, enc l] hs0 (enc (varsS s l)) hs0 := by
  refine fn hρ hE hcon Try.func41 BS_ref16_Vars rfl (by simp) ?_ hs0
  obtain ⟨hs, hl, hll, hb⟩ := hv
  have hn := hs.1
  have hroom : s.slots.length ≤ 1048576 := by omega
  have hroom2 : s.slots.length * 8 ≤ 1048576 := by omega
  unfold varsS
  have lo := fun Q => ref16_Vars_loop hρ hE hcon hc hs hl hll (st0 := ([], List.replicate s.slots.length false)) (R := l.foldl (fun st x => vsM s 100000 x st) (([] : List Int), List.replicate s.slots.length false)) (by simp) (by simpa using hb) (Q := Q)
  have hlo : (l.drop 0).foldl (fun st x => vsM s 100000 x st) (([] : List Int), List.replicate s.slots.length false) = l.foldl (fun st x => vsM s 100000 x st) (([] : List Int), List.replicate s.slots.length false) := rfl
  generalize l.foldl (fun st x => vsM s 100000 x st) (([] : List Int), List.replicate s.slots.length false) = R at lo hlo
  simp [S_ref16_Vars_r0, S_ref16_Vars_r1, S_ref16_Vars_r2, S_ref16_Vars_r3, S_ref16_Vars_r4, S_ref16_Vars_b0, S_ref16_Vars_r5, S_ref16_Vars_b1, S_ref16_Vars_r6, S_ref16_Vars, hE, hroom, hroom2]
  refine ⟨rfl, ?_⟩
  refine Ls_lessQ (Ls_less (Less.auto (n := 4) (TL := [(6, .int .i64 ((0 : Nat) : Int)), (1, .sl (l.map encTy) false), (5, .ptr 0 0 0)]) (HL := fndH s (([] : List Int), List.replicate s.slots.length false).2.length (([] : List Int), List.replicate s.slots.length false))
    (by simp [fndH, fndB, mkO]) (by simp [fndH, fndB, mkO]) (by simp [fndH, fndB, mkO]) (by simp [fndH, fndB, mkO])) (Ls_loop
    (lo _ ?_ l.length 0 ([], List.replicate s.slots.length false) (by omega) (by simp; exact .refl) hlo)))
  obtain ⟨out', done'⟩ := R
  rcases out' with _ | ⟨b, out'⟩ <;> simp [S_ref16_Vars_r0, S_ref16_Vars_r1, S_ref16_Vars_r2, S_ref16_Vars_r3, S_ref16_Vars_r4, S_ref16_Vars_b0, S_ref16_Vars_r5, S_ref16_Vars_b1, S_ref16_Vars_r6, S_ref16_Vars, hE, fndH, fndB, mkO]
end
end Go.Proofs.Ythfcfmkdeheicaa
