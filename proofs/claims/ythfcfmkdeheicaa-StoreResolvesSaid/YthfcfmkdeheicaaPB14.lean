import Derived.Test.YthfcfmkdeheicaaPW1
import Derived.Test.YthfcfmkdeheicaaJN
set_option linter.all false
set_option linter.all false
namespace Go.Proofs.Ythfcfmkdeheicaa
open Go.J
open Go.J.Enc (enc)
set_option maxRecDepth 100000
set_option maxHeartbeats 4000000
noncomputable def szF (d : Nat) (s : Store) (t : Ty) (m : Int) : Option Int := if s.tysOk ∧ t.ok = true ∧ 0 ≤ m ∧ m < d then some ((sz s.w16 t m.toNat : Nat) : Int) else none
section
variable {ρ : Nat → Value} (hρ : J.Good ρ) {E : Env} (hE : E.P = Try.prog) (hcon : ConsOk ρ E)
include hρ hE hcon
theorem ref16_size_loop {d : Nat} (hc : E.con 77 = fnS (spec3 (szF d))) (hd : d ≤ 1000000) {s : Store} (hs : s.tysOk) {u : Ty} (hu : u.ok = true) {m : Nat} (hm : m ≤ d) {R : Nat} {Q : Ex → PT V → HS → Prop}
    (hQ : Q (.exit 0) (mkP [(7, .int .i64 (R : Int)), (2, .int .i64 (m : Int))]) { H := mkP [], n := 0, log := [] }) :
    ∀ (n i r : Nat), i + n = u.args.length → 1 ≤ r → r ≤ m + 1 → szL (sz s.w16) m (u.args.drop i) r = R →
      LsN ρ E 0 40 S_ref16_size_l0 (LessQ 0 Q) (n + 1) (mkP [(8, .int .i64 (i : Int)), (4, .ptr 1 0 0), (7, .int .i64 (r : Int)), (2, .int .i64 (m : Int)), (3, .ptr 0 0 0)]) { H := mkP [(0, box (encStore s)), (1, box (encTy u))], n := 2, log := [] } := by
  intro n
  induction n with
  | zero =>
    intro i r hi hr1 hr2 hR
    have hil : ¬ (i : Int) < u.args.length := by omega
    rw [List.drop_of_length_le (by omega)] at hR
    simp only [szL] at hR
    subst hR
    refine lp hρ hE hcon fun K hK => ?_
    simp [S_ref16_size_l0, S_ref16_size_r0, S_ref16_size_r1, S_ref16_size_r2, S_ref16_size_r3, S_ref16_size_r4, S_ref16_size_r5, S_ref16_size_b0, S_ref16_size_r6, S_ref16_size_b1, S_ref16_size_r7, S_ref16_size, hE, hil]
    exact LessQ.mk (Less.keep 0 (by simp) (by simp) rfl rfl) hQ
  | succ n ih =>
    intro i r hi hr1 hr2 hR
    have hil : i < u.args.length := by omega
    have hil' : (i : Int) < u.args.length := by omega
    have hlen := Ty.ok_len hu
    have hw : IntKind.i64.wrap ((i : Int) + 1) = ((i + 1 : Nat) : Int) := wrap_succ (by omega)
    have hx := Ty.ok_arg hu (List.getElem_mem hil)
    rw [List.drop_eq_getElem_cons hil] at hR
    generalize hX : u.args[i] = x at hx hR
    refine lp hρ hE hcon fun K hK => ?_
    unfold szL at hR
    by_cases hrm : r ≤ m
    · rw [if_pos hrm] at hR
      have hrm' : (r : Int) ≤ m := by omega
      have hsub : IntKind.i64.wrap ((m : Int) - (r : Int)) = ((m - r : Nat) : Int) := by rw [wrap_i64 (by omega) (by omega)]; omega
      have hF : szF d s x ((m - r : Nat) : Int) = some ((sz s.w16 x (m - r) : Nat) : Int) := by
        unfold szF
        rw [if_pos ⟨hs, hx, by omega, by omega⟩, Int.toNat_natCast]
      have hle := sz_le (w := s.w16) x (m - r)
      generalize sz s.w16 x (m - r) = q at hF hle hR
      have hadd : IntKind.i64.wrap ((r : Int) + (q : Int)) = ((r + q : Nat) : Int) := by rw [wrap_i64 (by omega) (by omega)]; omega
      simp [S_ref16_size_l0, S_ref16_size_r0, S_ref16_size_r1, S_ref16_size_r2, S_ref16_size_r3, S_ref16_size_r4, S_ref16_size_r5, S_ref16_size_b0, S_ref16_size_r6, S_ref16_size_b1, S_ref16_size_r7, S_ref16_size, hE, hil, hil', hrm', hX, hsub, hc, hF, hadd, hw, -Int.natCast_add]
      exact hK _ _ (LsN_less (Less.keep 2 (by simp [-Int.natCast_add]) (by simp) rfl rfl) (ih (i + 1) (r + q) (by omega) (by omega) (by omega) hR))
    · rw [if_neg hrm] at hR
      subst hR
      have hrm' : ¬ (r : Int) ≤ m := by omega
      simp [S_ref16_size_l0, S_ref16_size_r0, S_ref16_size_r1, S_ref16_size_r2, S_ref16_size_r3, S_ref16_size_r4, S_ref16_size_r5, S_ref16_size_b0, S_ref16_size_r6, S_ref16_size_b1, S_ref16_size_r7, S_ref16_size, hE, hil, hil', hrm']
      exact LessQ.mk (Less.keep 0 (by simp) (by simp) rfl rfl) hQ
theorem ref16_size_run {d : Nat} (hc : E.con 77 = fnS (spec3 (szF d))) (hd : d ≤ 1000000) (hw : E.con 37 = fnS (spec2 fun (s : Store) (t : Ty) => if s.slots.length ≤ 1000000 then some (s.w16 t) else none))
    {s : Store} (hs : s.tysOk) {t : Ty} (ht : t.ok = true) {m : Nat} (hm : m ≤ d) (hs0 : HS) : CallOk ρ Try.prog 77 [enc s, enc t, enc (m : Int)] hs0 (enc ((sz s.w16 t m : Nat) : Int)) hs0 := by
  refine fn hρ hE hcon Try.func77 BS_ref16_size rfl (by simp) ?_ hs0
  have h1 : s.slots.length ≤ 1000000 := by have := hs.1; omega
  have hu : (s.w16 t).ok = true := Store.walkN_ok hs _ ht
  have e := sz_eq (w := s.w16) t m
  have hadd : IntKind.i64.wrap ((m : Int) + 1) = ((m + 1 : Nat) : Int) := wrap_succ (by omega)
  generalize hU : s.w16 t = u at hu e
  simp [S_ref16_size_r0, S_ref16_size_r1, S_ref16_size_r2, S_ref16_size_r3, S_ref16_size_r4, S_ref16_size_r5, S_ref16_size_b0, S_ref16_size_r6, S_ref16_size_b1, S_ref16_size_r7, S_ref16_size, hE, hw, h1, hU]
  refine Ls_lessQ (Ls_loop (LsN_less (Less.keep (TL := [(8, .int .i64 ((0 : Nat) : Int)), (4, .ptr 1 0 0), (7, .int .i64 ((1 : Nat) : Int)), (2, .int .i64 (m : Int)), (3, .ptr 0 0 0)]) (HL := [(0, box (encStore s)), (1, box (encTy u))]) 2 (by simp) (by simp [encTy_n]) rfl rfl)
    (ref16_size_loop hρ hE hcon hc hd hs hu hm (R := szL (sz s.w16) m u.args 1) ?_ u.args.length 0 1 (by omega) (by omega) (by omega) rfl)))
  have e2 : min ((szL (sz s.w16) m u.args 1 : Nat) : Int) ((m + 1 : Nat) : Int) = ((sz s.w16 t m : Nat) : Int) := by rw [e]; omega
  generalize szL (sz s.w16) m u.args 1 = q at e2
  rw [← e2]
  simp [S_ref16_size_r0, S_ref16_size_r1, S_ref16_size_r2, S_ref16_size_r3, S_ref16_size_r4, S_ref16_size_r5, S_ref16_size_b0, S_ref16_size_r6, S_ref16_size_b1, S_ref16_size_r7, S_ref16_size, hE, hadd, -Int.natCast_add]
  split <;> omega
theorem ref16_Size_run (hc : E.con 77 = fnS (spec3 (szF 1000000))) {s : Store} (hs : s.tysOk) {t : Ty} (ht : t.ok = true) {m : Int} (hm : m < 1000000) (hs0 : HS) : CallOk ρ Try.prog 39 [enc s, enc t, enc m] hs0 (enc ((sz s.w16 t (max m 0).toNat : Nat) : Int)) hs0 := by
  refine fn hρ hE hcon Try.func39 BS_ref16_Size rfl (by simp) ?_ hs0
  have hF : szF 1000000 s t (if m < 0 then 0 else m) = some ((sz s.w16 t (max m 0).toNat : Nat) : Int) := by
    have e : (if m < 0 then 0 else m) = max m 0 := by split <;> omega
    rw [e]
    unfold szF
    rw [if_pos ⟨hs, ht, by omega, by omega⟩]
  simp [S_ref16_Size_r0, S_ref16_Size_r1, S_ref16_Size, hE, hc, hF]
end
end Go.Proofs.Ythfcfmkdeheicaa
