import Derived.Test.YthfcfmkdeheicaaPB15
set_option linter.all false
set_option linter.all false
namespace Go.Proofs.Ythfcfmkdeheicaa
open Go.J
open Go.J.Enc (enc)
set_option maxRecDepth 100000
set_option maxHeartbeats 4000000
noncomputable def szG (d : Nat) (s : Store) (t : Ty) (m : Int) : Option Int := if s.tysOk ∧ t.ok = true ∧ 0 ≤ m ∧ m < d then some ((sz s.w t (max m 0).toNat : Nat) : Int) else none
noncomputable def resG (d : Nat) (s : Store) (t : Ty) : Option Ty := if s.tysOk ∧ t.ok = true ∧ sz s.w t d ≤ d then some (full s.w t) else none
section
variable {ρ : Nat → Value} (hρ : J.Good ρ) {E : Env} (hE : E.P = Try.prog) (hcon : ConsOk ρ E)
include hρ hE hcon
theorem ref16_Resolve_run (hS : E.con 39 = fnS (spec3 fun (s : Store) (t : Ty) (m : Int) => if s.tysOk ∧ t.ok = true ∧ m < 1000000 then some ((sz s.w16 t (max m 0).toNat : Nat) : Int) else none)) (hr : E.con 74 = fnS (spec2 (resF 4000)))
    {s : Store} (hs : s.tysOk) {t : Ty} (ht : t.ok = true) (hs0 : HS) : CallOk ρ Try.prog 35 [enc s, enc t] hs0 (enc (resolveM s.w16 t)) hs0 := by
  refine fn hρ hE hcon Try.func35 BS_ref16_Resolve rfl (by simp) ?_ hs0
  have e : (max (4000 : Int) 0).toNat = 4000 := rfl
  unfold resolveM
  by_cases h : sz s.w16 t 4000 ≤ 4000
  · have h' : ¬ (4000 : Int) < ((sz s.w16 t 4000 : Nat) : Int) := by omega
    have hF : resF 4000 s t = some (full s.w16 t) := by unfold resF; rw [if_pos ⟨hs, ht, h⟩]
    simp [S_ref16_Resolve_r0, S_ref16_Resolve_r1, S_ref16_Resolve_r2, S_ref16_Resolve_r3, S_ref16_Resolve, hE, hS, hs, ht, e, h, h', hr, hF]
  · have h' : (4000 : Int) < ((sz s.w16 t 4000 : Nat) : Int) := by omega
    simp [S_ref16_Resolve_r0, S_ref16_Resolve_r1, S_ref16_Resolve_r2, S_ref16_Resolve_r3, S_ref16_Resolve, hE, hS, hs, ht, e, h, h', ty0]
theorem store_Size_loop {d : Nat} (hc : E.con 38 = fnS (spec3 (szG d))) (hd : d ≤ 1000000) {s : Store} (hs : s.tysOk) {l : List Ty} (hu : Ty.oks l = true) (hlen : l.length ≤ 10000) {m : Nat} (hm : m ≤ d) {R : Nat} {Q : Ex → PT V → HS → Prop}
    (hQ : Q (.exit 0) (mkP [(7, .int .i64 (R : Int)), (2, .int .i64 (m : Int))]) { H := mkP [], n := 0, log := [] }) :
    ∀ (n i r : Nat), i + n = l.length → 1 ≤ r → r ≤ m + 1 → szL (sz s.w) m (l.drop i) r = R →
      LsN ρ E 0 39 S_store_Size_l0 (LessQ 0 Q) (n + 1) (mkP [(17, .int .i64 (i : Int)), (16, .int .i64 (l.length : Int)), (15, .sl (l.map encTy) false), (7, .int .i64 (r : Int)), (2, .int .i64 (m : Int)), (3, .ptr 0 0 0)]) { H := mkP [(0, box (encStore s))], n := 1, log := [] } := by
  intro n
  induction n with
  | zero =>
    intro i r hi hr1 hr2 hR
    have hil : ¬ (i : Int) < l.length := by omega
    rw [List.drop_of_length_le (by omega)] at hR
    simp only [szL] at hR
    subst hR
    refine lp hρ hE hcon fun K hK => ?_
    simp [S_store_Size_l0, S_store_Size_r0, S_store_Size_r1, S_store_Size_r2, S_store_Size_r3, S_store_Size_r4, S_store_Size_r5, S_store_Size_r6, S_store_Size_r7, S_store_Size_b0, S_store_Size_r8, S_store_Size_b1, S_store_Size_r9, S_store_Size_r10, S_store_Size_r11, S_store_Size, hE, hil]
    exact LessQ.mk (Less.keep 0 (by simp) (by simp) rfl rfl) hQ
  | succ n ih =>
    intro i r hi hr1 hr2 hR
    have hil : i < l.length := by omega
    have hil' : (i : Int) < l.length := by omega
    have hw : IntKind.i64.wrap ((i : Int) + 1) = ((i + 1 : Nat) : Int) := wrap_succ (by omega)
    have hx := Ty.oks_iff.1 hu _ (List.getElem_mem hil)
    rw [List.drop_eq_getElem_cons hil] at hR
    generalize hX : l[i] = x at hx hR
    refine lp hρ hE hcon fun K hK => ?_
    unfold szL at hR
    by_cases hrm : r ≤ m
    · rw [if_pos hrm] at hR
      have hrm' : ¬ (m : Int) < (r : Int) := by omega
      have hsub : IntKind.i64.wrap ((m : Int) - (r : Int)) = ((m - r : Nat) : Int) := by rw [wrap_i64 (by omega) (by omega)]; omega
      have hF : szG d s x ((m - r : Nat) : Int) = some ((sz s.w x (m - r) : Nat) : Int) := by
        unfold szG
        rw [if_pos ⟨hs, hx, by omega, by omega⟩, show (max ((m - r : Nat) : Int) 0).toNat = m - r by omega]
      have hle := sz_le (w := s.w) x (m - r)
      generalize sz s.w x (m - r) = q at hF hle hR
      have hadd : IntKind.i64.wrap ((r : Int) + (q : Int)) = ((r + q : Nat) : Int) := by rw [wrap_i64 (by omega) (by omega)]; omega
      have hrm2 : ¬ m < r := by omega
      simp [S_store_Size_l0, S_store_Size_r0, S_store_Size_r1, S_store_Size_r2, S_store_Size_r3, S_store_Size_r4, S_store_Size_r5, S_store_Size_r6, S_store_Size_r7, S_store_Size_b0, S_store_Size_r8, S_store_Size_b1, S_store_Size_r9, S_store_Size_r10, S_store_Size_r11, S_store_Size, hE, hil, hil', hrm', hrm2, hX, hsub, hc, hF, hadd, hw, -Int.natCast_add]
      exact hK _ _ (LsN_less (Less.keep 1 (by simp [-Int.natCast_add]) (by simp) rfl rfl) (ih (i + 1) (r + q) (by omega) (by omega) (by omega) hR))
    · rw [if_neg hrm] at hR
      subst hR
      have hrm' : (m : Int) < (r : Int) := by omega
      have hrm2 : m < r := by omega
      simp [S_store_Size_l0, S_store_Size_r0, S_store_Size_r1, S_store_Size_r2, S_store_Size_r3, S_store_Size_r4, S_store_Size_r5, S_store_Size_r6, S_store_Size_r7, S_store_Size_b0, S_store_Size_r8, S_store_Size_b1, S_store_Size_r9, S_store_Size_r10, S_store_Size_r11, S_store_Size, hE, hil, hil', hrm', hrm2, hX]
      exact LessQ.mk (Less.keep 0 (by simp) (by simp) rfl rfl) hQ
theorem store_Size_run {d : Nat} (hc : E.con 38 = fnS (spec3 (szG d))) (hd : d ≤ 1000000) (hw : E.con 36 = fnS (spec2 fun (s : Store) (t : Ty) => if s.slots.length ≤ 1000000 then some (s.w t) else none))
    {s : Store} (hs : s.tysOk) {t : Ty} (ht : t.ok = true) {m0 : Int} (hm0 : m0 < d + 1) (hs0 : HS) : CallOk ρ Try.prog 38 [enc s, enc t, enc m0] hs0 (enc ((sz s.w t (max m0 0).toNat : Nat) : Int)) hs0 := by
  refine fn hρ hE hcon Try.func38 BS_store_Size rfl (by simp) ?_ hs0
  have h1 : s.slots.length ≤ 1000000 := by have := hs.1; omega
  have hu : (s.w t).ok = true := Store.walkN_ok hs _ ht
  have em : (if m0 < 0 then 0 else m0) = (((max m0 0).toNat : Nat) : Int) := by split <;> omega
  have hm : (max m0 0).toNat ≤ d := by omega
  generalize (max m0 0).toNat = m at em hm
  have e := sz_eq (w := s.w) t m
  have hadd : IntKind.i64.wrap ((m : Int) + 1) = ((m + 1 : Nat) : Int) := wrap_succ (by omega)
  generalize hU : s.w t = u at hu e
  have hoks : Ty.oks u.args = true := by rw [Ty.oks_iff]; exact fun x hx => Ty.ok_arg hu hx
  simp [S_store_Size_r0, S_store_Size_r1, S_store_Size_r2, S_store_Size_r3, S_store_Size_r4, S_store_Size_r5, S_store_Size_r6, S_store_Size_r7, S_store_Size_b0, S_store_Size_r8, S_store_Size_b1, S_store_Size_r9, S_store_Size_r10, S_store_Size_r11, S_store_Size, hE, hw, h1, hU, em]
  refine Ls_lessQ (Ls_loop (LsN_less (Less.keep (TL := [(17, .int .i64 ((0 : Nat) : Int)), (16, .int .i64 (u.args.length : Int)), (15, .sl (u.args.map encTy) false), (7, .int .i64 ((1 : Nat) : Int)), (2, .int .i64 (m : Int)), (3, .ptr 0 0 0)]) (HL := [(0, box (encStore s))]) 1 (by simp) (by simp) rfl rfl)
    (store_Size_loop hρ hE hcon hc hd hs hoks (Ty.ok_len hu) hm (R := szL (sz s.w) m u.args 1) ?_ u.args.length 0 1 (by omega) (by omega) (by omega) rfl)))
  generalize szL (sz s.w) m u.args 1 = q at e
  rw [e]
  by_cases hq : m < q
  · have hq' : (m : Int) < q := by omega
    have e3 : min q (m + 1) = m + 1 := by omega
    rw [e3]
    simp [S_store_Size_r0, S_store_Size_r1, S_store_Size_r2, S_store_Size_r3, S_store_Size_r4, S_store_Size_r5, S_store_Size_r6, S_store_Size_r7, S_store_Size_b0, S_store_Size_r8, S_store_Size_b1, S_store_Size_r9, S_store_Size_r10, S_store_Size_r11, S_store_Size, hE, hq, hq', hadd, -Int.natCast_add]
  · have hq' : ¬ (m : Int) < q := by omega
    have e3 : min q (m + 1) = q := by omega
    rw [e3]
    simp [S_store_Size_r0, S_store_Size_r1, S_store_Size_r2, S_store_Size_r3, S_store_Size_r4, S_store_Size_r5, S_store_Size_r6, S_store_Size_r7, S_store_Size_b0, S_store_Size_r8, S_store_Size_b1, S_store_Size_r9, S_store_Size_r10, S_store_Size_r11, S_store_Size, hE, hq, hq']
end
end Go.Proofs.Ythfcfmkdeheicaa
